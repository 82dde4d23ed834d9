import Derived.Test.YtikjomekhnkgcaaGQ
/- The reference's sums: Quo, walked. -/
namespace Go.Proofs.Ytikjomekhnkgcaa
open Go.RowKit
attribute [local go_sem ↓] Go.wp_at_zero Go.wp_at_succ

def QAt (w wr : World) (G H : Nat) (m : Int) (row : Array Value) : Prop :=
  wr.heap[G]? = some (.cells #[.int .u64 (dg 0 (m)), .int .u64 (dg 1 (m)), .int .u64 (dg 2 (m)), .int .u64 (dg 3 (m)), .int .u64 (dg 4 (m)), .int .u64 (dg 5 (m))] 102 (0, 0)) ∧ wr.heap[H]? = some (.cells row 102 (0, 0)) ∧ Below w.heap.size w wr
set_option maxRecDepth 2000 in
set_option maxHeartbeats 8000000 in
theorem quo02_any (p n d : Int) (hp : BIG p) (hn : BIG n) (hd : In64 d) (hd0 : d ≠ 0) (w : World) :
    Calls Try.prog 79 #[.agg #[.int .u64 (dg 0 (p)), .int .u64 (dg 1 (p)), .int .u64 (dg 2 (p)), .int .u64 (dg 3 (p)), .int .u64 (dg 4 (p)), .int .u64 (dg 5 (p)), .int .u64 (dg 0 (n)), .int .u64 (dg 1 (n)), .int .u64 (dg 2 (n)), .int .u64 (dg 3 (n)), .int .u64 (dg 4 (n)), .int .u64 (dg 5 (n))], .int .i64 d] w fun e w' => e = .returned (.tuple #[.int .i64 (clampI (quoI (p - n) d)), .bool (overI (quoI (p - n) d))]) ∧ Below w.heap.size w w' := by
  have hm : BIG (absI (p - n)) := by unfold BIG at *; unfold absI; split <;> omega
  have WH := Lib.hid (fun W => whole_any p n hp hn W)
  have SZ := Lib.hid (fun W => size02_any d hd W)
  have hb0 : 0 < absI d ∧ absI d ≤ 9223372036854775808 := by unfold In64 at hd; unfold absI; split <;> omega
  obtain ⟨m, hm0⟩ : ∃ m, m = absI (p - n) := ⟨_, rfl⟩
  rw [← hm0] at hm WH
  have HM0 := Lib.hid hm0
  obtain ⟨s, hs⟩ : ∃ s, s = decide (p - n < 0) := ⟨_, rfl⟩
  rw [← hs] at WH
  have HS := Lib.hid hs
  obtain ⟨b, hb⟩ : ∃ b, b = absI d := ⟨_, rfl⟩
  rw [← hb] at hb0 SZ
  have HB := Lib.hid hb
  obtain ⟨b0, b1⟩ := hb0
  have HD := Lib.hid hd
  clear hm0 hs hb hd
  go_enter Try.func79, Try.ntmps79
  go_wp2_with (first
    | (go_at_call 104; refine (WH.out _).mono ?_; rintro e w1 ⟨rfl, hb1⟩; obtain ⟨hc1, hf1, hz1⟩ := bcell hb1; (try simp at hz1); (try have : w.heap.size < w1.heap.size := by omega); (try have : w.heap.size + 1 < w1.heap.size := by omega); (try have : w.heap.size + 1 + 1 < w1.heap.size := by omega); (try have : w.heap.size + 1 + 1 + 1 < w1.heap.size := by omega); (try have : g < w1.heap.size := by omega); (try have : ga < w1.heap.size := by omega); (try have : gb < w1.heap.size := by omega); (try have : gc < w1.heap.size := by omega); have hB : Below w.heap.size w w1 := (by repeat (first | (with_reducible exact Below.refl _ _) | (with_reducible assumption) | (with_reducible refine Below.drew ?_) | (with_reducible refine Below.alloc ?_ ?_ _) | (with_reducible refine Below.setCell ?_ ?_ _) | (with_reducible refine Below.trans ?_ (Below.mono hb ?_)) | (with_reducible refine Below.trans ?_ (Below.mono hb1 ?_)) | (with_reducible refine Below.trans ?_ (Below.mono hb2 ?_)) | (with_reducible refine Below.trans ?_ (Below.mono hb3 ?_)) | (with_reducible refine Below.trans ?_ (Below.mono hb4 ?_)) | (with_reducible refine Below.trans ?_ (Below.mono hb5 ?_)) | (with_reducible refine Below.trans ?_ (Below.mono hb6 ?_)) | (with_reducible refine Below.trans ?_ (Below.mono hb7 ?_)) | (with_reducible refine Below.trans ?_ (Below.mono hb8 ?_)) | (with_reducible refine Below.trans ?_ (Below.mono hb9 ?_)) | (focus (first | omega | (simp; done) | (simp; omega))) | exact hB)))
    | (go_at_call 101; refine (SZ.out _).mono ?_; rintro e w2 ⟨rfl, rfl⟩))
  obtain ⟨G, hG⟩ : ∃ G, G = w1.heap.size := ⟨_, rfl⟩
  have hGw : w.heap.size < G := by omega
  have HG := Lib.hid hG
  rw [← hG]
  have hz1 : w.heap.size + 1 ≤ G := by omega
  have HM := Lib.hid hm
  have hb1' := Lib.hid hb1
  clear hG hc1 hf1 WH SZ hm hp hn
  obtain ⟨q, hq⟩ : ∃ q, q = m / b := ⟨_, rfl⟩
  have HQ := Lib.hid hq
  clear hq
  go_loopw [10, 11] (fun r i wr => ∃ k : Nat, k ≤ 6 ∧ i = .int .i64 ((k : Int) - 1) ∧ r = .int .u64 (rsQ m b k 0) ∧ QAt w wr G (G + 1) m (dnL k q)) (fun _ i _ => (intOf i + 1).toNat)
  case atStart =>
    refine ⟨6, by omega, rfl, by rw [quo_top HM.out], ?_, ?_, (by repeat (first | (with_reducible exact Below.refl _ _) | (with_reducible assumption) | (with_reducible refine Below.drew ?_) | (with_reducible refine Below.alloc ?_ ?_ _) | (with_reducible refine Below.setCell ?_ ?_ _) | (with_reducible refine Below.trans ?_ (Below.mono hb ?_)) | (with_reducible refine Below.trans ?_ (Below.mono hb1 ?_)) | (with_reducible refine Below.trans ?_ (Below.mono hb2 ?_)) | (with_reducible refine Below.trans ?_ (Below.mono hb3 ?_)) | (with_reducible refine Below.trans ?_ (Below.mono hb4 ?_)) | (with_reducible refine Below.trans ?_ (Below.mono hb5 ?_)) | (with_reducible refine Below.trans ?_ (Below.mono hb6 ?_)) | (with_reducible refine Below.trans ?_ (Below.mono hb7 ?_)) | (with_reducible refine Below.trans ?_ (Below.mono hb8 ?_)) | (with_reducible refine Below.trans ?_ (Below.mono hb9 ?_)) | (focus (first | omega | (simp; done) | (simp; omega))) | exact hB))⟩
    · rw [Below.heap_alloc _ _ _ (by have := HG.out; simp; omega), HG.out]; exact heap_alloc_new w1 _
    · exact newest_at _ _ (by have := HG.out; simp; omega)
  case round =>
    obtain ⟨k', hk, rfl, rfl, hM, hQ, hB⟩ := hrel
    rcases Nat.eq_zero_or_pos k' with h0 | h0
    · subst h0
      rw [quo_last]
      rw [dnL_zero] at hQ
      have hres : sgn (s != decide (d < 0)) (rnd m b) = quoI (p - n) d := by
        rw [HS.out, HM0.out, HB.out]
        unfold quoI sgn
        cases decide (p - n < 0) <;> cases decide (d < 0) <;> simp
      have HRES := Lib.hid hres
      have q0 := Int.emod_nonneg m (show b ≠ 0 by omega)
      have q1 := Int.emod_lt_of_pos m b0
      have hq0 : 0 ≤ q := by rw [HQ.out]; exact Int.ediv_nonneg HM.out.1 (by omega)
      have hq1 : q < 6277101735386680763835789423207666416102355444464034512896 := by
        have := HM.out.2
        have := Int.ediv_le_self b HM.out.1
        rw [← HQ.out] at this; omega
      have hq2 : b < 2 * (m % b) ∨ 2 * (m % b) = b → q + 1 < 6277101735386680763835789423207666416102355444464034512896 := by
        intro h
        have h1 := HM.out.2
        have h2 := Int.mul_ediv_add_emod m b
        rw [← HQ.out] at h2
        have h3 : q * 1 ≤ b * q := by rw [Int.mul_comm b]; exact Int.mul_le_mul_of_nonneg_left (by omega) hq0
        omega
      have hup : rnd m b = if b < 2 * (m % b) ∨ 2 * (m % b) = b ∧ q % 2 = 1 then q + 1 else q := by rw [HQ.out]; rfl
      have ed : dg 0 q % 2 = q % 2 := by
        unfold dg; simp only [Nat.mul_zero, Int.pow_zero, Int.ediv_one]; omega
      have d0 := dg_in 0 q
      have y0 := cell_of_row wr (G + 1) 0 _ _ _ hQ
      have y1 := cell_of_row wr (G + 1) 1 _ _ _ hQ
      have y2 := cell_of_row wr (G + 1) 2 _ _ _ hQ
      have y3 := cell_of_row wr (G + 1) 3 _ _ _ hQ
      have y4 := cell_of_row wr (G + 1) 4 _ _ _ hQ
      have y5 := cell_of_row wr (G + 1) 5 _ _ _ hQ
      have yf : ∀ i, wr.frozen? ⟨G + 1, i, none⟩ = false := fun i => by simp [World.frozen?, hQ]
      simp only [List.getElem?_toArray, List.getElem?_cons_zero, List.getElem?_cons_succ] at y0 y1 y2 y3 y4 y5
      have kG := lt_of_block hQ
      have HM := Lib.hid hQ
      clear hM hQ hres
      have hGw' : w.heap.size < G + 1 := by omega
      clear hGw hz1
      generalize G + 1 = H at *
      generalize m % b = r at *
      have eu : upB 0 1 = 1 := rfl
      have ON := Lib.hid (fun W => one64_any 1 0 ⟨by omega, by omega⟩ (by omega) (by omega) W)
      have PL := Lib.hid (fun W => plus_any q 1 W)
      rw [eu] at ON
      clear eu
      by_cases hd1 : d < 0
      · have hd2 := decide_eq_true hd1
        rw [hd2] at HRES
        clear hd1 hd0
        cases s
        · obtain ⟨f, hf, HR⟩ : ∃ f, f = true ∧ sgn f (rnd m b) = quoI (p - n) d := ⟨true, rfl, HRES.out⟩
          clear HRES
          by_cases hu : b < 2 * r ∨ 2 * r = b ∧ q % 2 = 1
          · rw [if_pos hu] at hup
            rw [hup] at HR
            have CL := Lib.hid (fun W => clamp02_any (q + 1) f ⟨by omega, by omega⟩ W)
            rw [HR] at CL
            subst hf
            clear hup hq2 HR
            by_cases h1 : b < 2 * r
            · have h2 : b - r < r := by omega
              clear hu h1 ed
              go_wp2_with fail
              go_region_with (first
                | (go_at_call 103; refine (ON.out _).mono ?_; rintro e w3 ⟨rfl, hb3⟩; replace hb3 := undrew hb3; obtain ⟨hc3, hf3, hz3⟩ := bcell hb3; have k3 : H < w3.heap.size := by omega)
                | (go_at_call 102; refine (PL.out _).mono ?_; rintro e w4 ⟨rfl, hb4⟩; obtain ⟨hc4, hf4, hz4⟩ := bcell hb4; have k4 : H < w4.heap.size := by omega))
              all_goals
                have b5 := set6 (.int .u64 (dg 0 (q + 1))) (.int .u64 (dg 1 (q + 1))) (.int .u64 (dg 2 (q + 1))) (.int .u64 (dg 3 (q + 1))) (.int .u64 (dg 4 (q + 1))) (.int .u64 (dg 5 (q + 1))) ((hb4.block H (by omega)).trans ((hb3.block H kG).trans HM.out))
                have B5 : Below w.heap.size w _ := hB.trans ((hb3.mono (by have := hB.size; omega)).trans ((hb4.mono (by have := hB.size; omega)).trans (set6_below (g := H) (.int .u64 (dg 0 (q + 1))) (.int .u64 (dg 1 (q + 1))) (.int .u64 (dg 2 (q + 1))) (.int .u64 (dg 3 (q + 1))) (.int .u64 (dg 4 (q + 1))) (.int .u64 (dg 5 (q + 1))) (Nat.le_of_lt hGw'))))
                have o0 := cell_of_row _ H 0 _ _ _ b5
                have o1 := cell_of_row _ H 1 _ _ _ b5
                have o2 := cell_of_row _ H 2 _ _ _ b5
                have o3 := cell_of_row _ H 3 _ _ _ b5
                have o4 := cell_of_row _ H 4 _ _ _ b5
                have o5 := cell_of_row _ H 5 _ _ _ b5
                simp only [List.getElem?_toArray, List.getElem?_cons_zero, List.getElem?_cons_succ] at o0 o1 o2 o3 o4 o5
                have z5 := B5.size
                clear b5 hc3 hf3 hc4 hf4 y0 y1 y2 y3 y4 y5 yf
                go_wp2_with (go_at_call 106; refine (CL.out _).mono ?_; rintro e w5 ⟨rfl, hb5⟩)
                go_ret2
                exact ⟨rfl, B5.trans (hb5.mono z5)⟩
            · have h2 : ¬ b - r < r := by omega
              have t1 : (r == b - r) = true := by simp; omega
              have t2 : (dg 0 q % 2 == 1) = true := by rw [ed]; simp; omega
              clear hu h1 ed
              go_wp2_with fail
              go_region_with (first
                | (go_at_call 103; refine (ON.out _).mono ?_; rintro e w3 ⟨rfl, hb3⟩; replace hb3 := undrew hb3; obtain ⟨hc3, hf3, hz3⟩ := bcell hb3; have k3 : H < w3.heap.size := by omega)
                | (go_at_call 102; refine (PL.out _).mono ?_; rintro e w4 ⟨rfl, hb4⟩; obtain ⟨hc4, hf4, hz4⟩ := bcell hb4; have k4 : H < w4.heap.size := by omega))
              all_goals
                have b5 := set6 (.int .u64 (dg 0 (q + 1))) (.int .u64 (dg 1 (q + 1))) (.int .u64 (dg 2 (q + 1))) (.int .u64 (dg 3 (q + 1))) (.int .u64 (dg 4 (q + 1))) (.int .u64 (dg 5 (q + 1))) ((hb4.block H (by omega)).trans ((hb3.block H kG).trans HM.out))
                have B5 : Below w.heap.size w _ := hB.trans ((hb3.mono (by have := hB.size; omega)).trans ((hb4.mono (by have := hB.size; omega)).trans (set6_below (g := H) (.int .u64 (dg 0 (q + 1))) (.int .u64 (dg 1 (q + 1))) (.int .u64 (dg 2 (q + 1))) (.int .u64 (dg 3 (q + 1))) (.int .u64 (dg 4 (q + 1))) (.int .u64 (dg 5 (q + 1))) (Nat.le_of_lt hGw'))))
                have o0 := cell_of_row _ H 0 _ _ _ b5
                have o1 := cell_of_row _ H 1 _ _ _ b5
                have o2 := cell_of_row _ H 2 _ _ _ b5
                have o3 := cell_of_row _ H 3 _ _ _ b5
                have o4 := cell_of_row _ H 4 _ _ _ b5
                have o5 := cell_of_row _ H 5 _ _ _ b5
                simp only [List.getElem?_toArray, List.getElem?_cons_zero, List.getElem?_cons_succ] at o0 o1 o2 o3 o4 o5
                have z5 := B5.size
                clear b5 hc3 hf3 hc4 hf4 y0 y1 y2 y3 y4 y5 yf
                go_wp2_with (go_at_call 106; refine (CL.out _).mono ?_; rintro e w5 ⟨rfl, hb5⟩)
                go_ret2
                exact ⟨rfl, B5.trans (hb5.mono z5)⟩
          · rw [if_neg hu] at hup
            rw [hup] at HR
            have CL := Lib.hid (fun W => clamp02_any q f ⟨hq0, hq1⟩ W)
            rw [HR] at CL
            subst hf
            clear hup hq2 HR
            have h2 : ¬ b - r < r := by omega
            by_cases h1 : r = b - r
            · have t1 : (r == b - r) = true := by simpa using h1
              have t2 : (dg 0 q % 2 == 1) = false := by rw [ed]; simp; omega
              clear hu h1 ed
              go_wp2_with (go_at_call 106; refine (CL.out _).mono ?_; rintro e w3 ⟨rfl, hb3⟩)
              go_ret2
              exact ⟨rfl, hB.trans (hb3.mono (by have := hB.size; omega))⟩
            · have t1 : (r == b - r) = false := by simpa using h1
              clear hu h1 ed
              go_wp2_with (go_at_call 106; refine (CL.out _).mono ?_; rintro e w3 ⟨rfl, hb3⟩)
              go_ret2
              exact ⟨rfl, hB.trans (hb3.mono (by have := hB.size; omega))⟩
        · obtain ⟨f, hf, HR⟩ : ∃ f, f = false ∧ sgn f (rnd m b) = quoI (p - n) d := ⟨false, rfl, HRES.out⟩
          clear HRES
          by_cases hu : b < 2 * r ∨ 2 * r = b ∧ q % 2 = 1
          · rw [if_pos hu] at hup
            rw [hup] at HR
            have CL := Lib.hid (fun W => clamp02_any (q + 1) f ⟨by omega, by omega⟩ W)
            rw [HR] at CL
            subst hf
            clear hup hq2 HR
            by_cases h1 : b < 2 * r
            · have h2 : b - r < r := by omega
              clear hu h1 ed
              go_wp2_with fail
              go_region_with (first
                | (go_at_call 103; refine (ON.out _).mono ?_; rintro e w3 ⟨rfl, hb3⟩; replace hb3 := undrew hb3; obtain ⟨hc3, hf3, hz3⟩ := bcell hb3; have k3 : H < w3.heap.size := by omega)
                | (go_at_call 102; refine (PL.out _).mono ?_; rintro e w4 ⟨rfl, hb4⟩; obtain ⟨hc4, hf4, hz4⟩ := bcell hb4; have k4 : H < w4.heap.size := by omega))
              all_goals
                have b5 := set6 (.int .u64 (dg 0 (q + 1))) (.int .u64 (dg 1 (q + 1))) (.int .u64 (dg 2 (q + 1))) (.int .u64 (dg 3 (q + 1))) (.int .u64 (dg 4 (q + 1))) (.int .u64 (dg 5 (q + 1))) ((hb4.block H (by omega)).trans ((hb3.block H kG).trans HM.out))
                have B5 : Below w.heap.size w _ := hB.trans ((hb3.mono (by have := hB.size; omega)).trans ((hb4.mono (by have := hB.size; omega)).trans (set6_below (g := H) (.int .u64 (dg 0 (q + 1))) (.int .u64 (dg 1 (q + 1))) (.int .u64 (dg 2 (q + 1))) (.int .u64 (dg 3 (q + 1))) (.int .u64 (dg 4 (q + 1))) (.int .u64 (dg 5 (q + 1))) (Nat.le_of_lt hGw'))))
                have o0 := cell_of_row _ H 0 _ _ _ b5
                have o1 := cell_of_row _ H 1 _ _ _ b5
                have o2 := cell_of_row _ H 2 _ _ _ b5
                have o3 := cell_of_row _ H 3 _ _ _ b5
                have o4 := cell_of_row _ H 4 _ _ _ b5
                have o5 := cell_of_row _ H 5 _ _ _ b5
                simp only [List.getElem?_toArray, List.getElem?_cons_zero, List.getElem?_cons_succ] at o0 o1 o2 o3 o4 o5
                have z5 := B5.size
                clear b5 hc3 hf3 hc4 hf4 y0 y1 y2 y3 y4 y5 yf
                go_wp2_with (go_at_call 106; refine (CL.out _).mono ?_; rintro e w5 ⟨rfl, hb5⟩)
                go_ret2
                exact ⟨rfl, B5.trans (hb5.mono z5)⟩
            · have h2 : ¬ b - r < r := by omega
              have t1 : (r == b - r) = true := by simp; omega
              have t2 : (dg 0 q % 2 == 1) = true := by rw [ed]; simp; omega
              clear hu h1 ed
              go_wp2_with fail
              go_region_with (first
                | (go_at_call 103; refine (ON.out _).mono ?_; rintro e w3 ⟨rfl, hb3⟩; replace hb3 := undrew hb3; obtain ⟨hc3, hf3, hz3⟩ := bcell hb3; have k3 : H < w3.heap.size := by omega)
                | (go_at_call 102; refine (PL.out _).mono ?_; rintro e w4 ⟨rfl, hb4⟩; obtain ⟨hc4, hf4, hz4⟩ := bcell hb4; have k4 : H < w4.heap.size := by omega))
              all_goals
                have b5 := set6 (.int .u64 (dg 0 (q + 1))) (.int .u64 (dg 1 (q + 1))) (.int .u64 (dg 2 (q + 1))) (.int .u64 (dg 3 (q + 1))) (.int .u64 (dg 4 (q + 1))) (.int .u64 (dg 5 (q + 1))) ((hb4.block H (by omega)).trans ((hb3.block H kG).trans HM.out))
                have B5 : Below w.heap.size w _ := hB.trans ((hb3.mono (by have := hB.size; omega)).trans ((hb4.mono (by have := hB.size; omega)).trans (set6_below (g := H) (.int .u64 (dg 0 (q + 1))) (.int .u64 (dg 1 (q + 1))) (.int .u64 (dg 2 (q + 1))) (.int .u64 (dg 3 (q + 1))) (.int .u64 (dg 4 (q + 1))) (.int .u64 (dg 5 (q + 1))) (Nat.le_of_lt hGw'))))
                have o0 := cell_of_row _ H 0 _ _ _ b5
                have o1 := cell_of_row _ H 1 _ _ _ b5
                have o2 := cell_of_row _ H 2 _ _ _ b5
                have o3 := cell_of_row _ H 3 _ _ _ b5
                have o4 := cell_of_row _ H 4 _ _ _ b5
                have o5 := cell_of_row _ H 5 _ _ _ b5
                simp only [List.getElem?_toArray, List.getElem?_cons_zero, List.getElem?_cons_succ] at o0 o1 o2 o3 o4 o5
                have z5 := B5.size
                clear b5 hc3 hf3 hc4 hf4 y0 y1 y2 y3 y4 y5 yf
                go_wp2_with (go_at_call 106; refine (CL.out _).mono ?_; rintro e w5 ⟨rfl, hb5⟩)
                go_ret2
                exact ⟨rfl, B5.trans (hb5.mono z5)⟩
          · rw [if_neg hu] at hup
            rw [hup] at HR
            have CL := Lib.hid (fun W => clamp02_any q f ⟨hq0, hq1⟩ W)
            rw [HR] at CL
            subst hf
            clear hup hq2 HR
            have h2 : ¬ b - r < r := by omega
            by_cases h1 : r = b - r
            · have t1 : (r == b - r) = true := by simpa using h1
              have t2 : (dg 0 q % 2 == 1) = false := by rw [ed]; simp; omega
              clear hu h1 ed
              go_wp2_with (go_at_call 106; refine (CL.out _).mono ?_; rintro e w3 ⟨rfl, hb3⟩)
              go_ret2
              exact ⟨rfl, hB.trans (hb3.mono (by have := hB.size; omega))⟩
            · have t1 : (r == b - r) = false := by simpa using h1
              clear hu h1 ed
              go_wp2_with (go_at_call 106; refine (CL.out _).mono ?_; rintro e w3 ⟨rfl, hb3⟩)
              go_ret2
              exact ⟨rfl, hB.trans (hb3.mono (by have := hB.size; omega))⟩
      · have hd2 := decide_eq_false hd1
        rw [hd2] at HRES
        clear hd1 hd0
        cases s
        · obtain ⟨f, hf, HR⟩ : ∃ f, f = false ∧ sgn f (rnd m b) = quoI (p - n) d := ⟨false, rfl, HRES.out⟩
          clear HRES
          by_cases hu : b < 2 * r ∨ 2 * r = b ∧ q % 2 = 1
          · rw [if_pos hu] at hup
            rw [hup] at HR
            have CL := Lib.hid (fun W => clamp02_any (q + 1) f ⟨by omega, by omega⟩ W)
            rw [HR] at CL
            subst hf
            clear hup hq2 HR
            by_cases h1 : b < 2 * r
            · have h2 : b - r < r := by omega
              clear hu h1 ed
              go_wp2_with fail
              go_region_with (first
                | (go_at_call 103; refine (ON.out _).mono ?_; rintro e w3 ⟨rfl, hb3⟩; replace hb3 := undrew hb3; obtain ⟨hc3, hf3, hz3⟩ := bcell hb3; have k3 : H < w3.heap.size := by omega)
                | (go_at_call 102; refine (PL.out _).mono ?_; rintro e w4 ⟨rfl, hb4⟩; obtain ⟨hc4, hf4, hz4⟩ := bcell hb4; have k4 : H < w4.heap.size := by omega))
              all_goals
                have b5 := set6 (.int .u64 (dg 0 (q + 1))) (.int .u64 (dg 1 (q + 1))) (.int .u64 (dg 2 (q + 1))) (.int .u64 (dg 3 (q + 1))) (.int .u64 (dg 4 (q + 1))) (.int .u64 (dg 5 (q + 1))) ((hb4.block H (by omega)).trans ((hb3.block H kG).trans HM.out))
                have B5 : Below w.heap.size w _ := hB.trans ((hb3.mono (by have := hB.size; omega)).trans ((hb4.mono (by have := hB.size; omega)).trans (set6_below (g := H) (.int .u64 (dg 0 (q + 1))) (.int .u64 (dg 1 (q + 1))) (.int .u64 (dg 2 (q + 1))) (.int .u64 (dg 3 (q + 1))) (.int .u64 (dg 4 (q + 1))) (.int .u64 (dg 5 (q + 1))) (Nat.le_of_lt hGw'))))
                have o0 := cell_of_row _ H 0 _ _ _ b5
                have o1 := cell_of_row _ H 1 _ _ _ b5
                have o2 := cell_of_row _ H 2 _ _ _ b5
                have o3 := cell_of_row _ H 3 _ _ _ b5
                have o4 := cell_of_row _ H 4 _ _ _ b5
                have o5 := cell_of_row _ H 5 _ _ _ b5
                simp only [List.getElem?_toArray, List.getElem?_cons_zero, List.getElem?_cons_succ] at o0 o1 o2 o3 o4 o5
                have z5 := B5.size
                clear b5 hc3 hf3 hc4 hf4 y0 y1 y2 y3 y4 y5 yf
                go_wp2_with (go_at_call 106; refine (CL.out _).mono ?_; rintro e w5 ⟨rfl, hb5⟩)
                go_ret2
                exact ⟨rfl, B5.trans (hb5.mono z5)⟩
            · have h2 : ¬ b - r < r := by omega
              have t1 : (r == b - r) = true := by simp; omega
              have t2 : (dg 0 q % 2 == 1) = true := by rw [ed]; simp; omega
              clear hu h1 ed
              go_wp2_with fail
              go_region_with (first
                | (go_at_call 103; refine (ON.out _).mono ?_; rintro e w3 ⟨rfl, hb3⟩; replace hb3 := undrew hb3; obtain ⟨hc3, hf3, hz3⟩ := bcell hb3; have k3 : H < w3.heap.size := by omega)
                | (go_at_call 102; refine (PL.out _).mono ?_; rintro e w4 ⟨rfl, hb4⟩; obtain ⟨hc4, hf4, hz4⟩ := bcell hb4; have k4 : H < w4.heap.size := by omega))
              all_goals
                have b5 := set6 (.int .u64 (dg 0 (q + 1))) (.int .u64 (dg 1 (q + 1))) (.int .u64 (dg 2 (q + 1))) (.int .u64 (dg 3 (q + 1))) (.int .u64 (dg 4 (q + 1))) (.int .u64 (dg 5 (q + 1))) ((hb4.block H (by omega)).trans ((hb3.block H kG).trans HM.out))
                have B5 : Below w.heap.size w _ := hB.trans ((hb3.mono (by have := hB.size; omega)).trans ((hb4.mono (by have := hB.size; omega)).trans (set6_below (g := H) (.int .u64 (dg 0 (q + 1))) (.int .u64 (dg 1 (q + 1))) (.int .u64 (dg 2 (q + 1))) (.int .u64 (dg 3 (q + 1))) (.int .u64 (dg 4 (q + 1))) (.int .u64 (dg 5 (q + 1))) (Nat.le_of_lt hGw'))))
                have o0 := cell_of_row _ H 0 _ _ _ b5
                have o1 := cell_of_row _ H 1 _ _ _ b5
                have o2 := cell_of_row _ H 2 _ _ _ b5
                have o3 := cell_of_row _ H 3 _ _ _ b5
                have o4 := cell_of_row _ H 4 _ _ _ b5
                have o5 := cell_of_row _ H 5 _ _ _ b5
                simp only [List.getElem?_toArray, List.getElem?_cons_zero, List.getElem?_cons_succ] at o0 o1 o2 o3 o4 o5
                have z5 := B5.size
                clear b5 hc3 hf3 hc4 hf4 y0 y1 y2 y3 y4 y5 yf
                go_wp2_with (go_at_call 106; refine (CL.out _).mono ?_; rintro e w5 ⟨rfl, hb5⟩)
                go_ret2
                exact ⟨rfl, B5.trans (hb5.mono z5)⟩
          · rw [if_neg hu] at hup
            rw [hup] at HR
            have CL := Lib.hid (fun W => clamp02_any q f ⟨hq0, hq1⟩ W)
            rw [HR] at CL
            subst hf
            clear hup hq2 HR
            have h2 : ¬ b - r < r := by omega
            by_cases h1 : r = b - r
            · have t1 : (r == b - r) = true := by simpa using h1
              have t2 : (dg 0 q % 2 == 1) = false := by rw [ed]; simp; omega
              clear hu h1 ed
              go_wp2_with (go_at_call 106; refine (CL.out _).mono ?_; rintro e w3 ⟨rfl, hb3⟩)
              go_ret2
              exact ⟨rfl, hB.trans (hb3.mono (by have := hB.size; omega))⟩
            · have t1 : (r == b - r) = false := by simpa using h1
              clear hu h1 ed
              go_wp2_with (go_at_call 106; refine (CL.out _).mono ?_; rintro e w3 ⟨rfl, hb3⟩)
              go_ret2
              exact ⟨rfl, hB.trans (hb3.mono (by have := hB.size; omega))⟩
        · obtain ⟨f, hf, HR⟩ : ∃ f, f = true ∧ sgn f (rnd m b) = quoI (p - n) d := ⟨true, rfl, HRES.out⟩
          clear HRES
          by_cases hu : b < 2 * r ∨ 2 * r = b ∧ q % 2 = 1
          · rw [if_pos hu] at hup
            rw [hup] at HR
            have CL := Lib.hid (fun W => clamp02_any (q + 1) f ⟨by omega, by omega⟩ W)
            rw [HR] at CL
            subst hf
            clear hup hq2 HR
            by_cases h1 : b < 2 * r
            · have h2 : b - r < r := by omega
              clear hu h1 ed
              go_wp2_with fail
              go_region_with (first
                | (go_at_call 103; refine (ON.out _).mono ?_; rintro e w3 ⟨rfl, hb3⟩; replace hb3 := undrew hb3; obtain ⟨hc3, hf3, hz3⟩ := bcell hb3; have k3 : H < w3.heap.size := by omega)
                | (go_at_call 102; refine (PL.out _).mono ?_; rintro e w4 ⟨rfl, hb4⟩; obtain ⟨hc4, hf4, hz4⟩ := bcell hb4; have k4 : H < w4.heap.size := by omega))
              all_goals
                have b5 := set6 (.int .u64 (dg 0 (q + 1))) (.int .u64 (dg 1 (q + 1))) (.int .u64 (dg 2 (q + 1))) (.int .u64 (dg 3 (q + 1))) (.int .u64 (dg 4 (q + 1))) (.int .u64 (dg 5 (q + 1))) ((hb4.block H (by omega)).trans ((hb3.block H kG).trans HM.out))
                have B5 : Below w.heap.size w _ := hB.trans ((hb3.mono (by have := hB.size; omega)).trans ((hb4.mono (by have := hB.size; omega)).trans (set6_below (g := H) (.int .u64 (dg 0 (q + 1))) (.int .u64 (dg 1 (q + 1))) (.int .u64 (dg 2 (q + 1))) (.int .u64 (dg 3 (q + 1))) (.int .u64 (dg 4 (q + 1))) (.int .u64 (dg 5 (q + 1))) (Nat.le_of_lt hGw'))))
                have o0 := cell_of_row _ H 0 _ _ _ b5
                have o1 := cell_of_row _ H 1 _ _ _ b5
                have o2 := cell_of_row _ H 2 _ _ _ b5
                have o3 := cell_of_row _ H 3 _ _ _ b5
                have o4 := cell_of_row _ H 4 _ _ _ b5
                have o5 := cell_of_row _ H 5 _ _ _ b5
                simp only [List.getElem?_toArray, List.getElem?_cons_zero, List.getElem?_cons_succ] at o0 o1 o2 o3 o4 o5
                have z5 := B5.size
                clear b5 hc3 hf3 hc4 hf4 y0 y1 y2 y3 y4 y5 yf
                go_wp2_with (go_at_call 106; refine (CL.out _).mono ?_; rintro e w5 ⟨rfl, hb5⟩)
                go_ret2
                exact ⟨rfl, B5.trans (hb5.mono z5)⟩
            · have h2 : ¬ b - r < r := by omega
              have t1 : (r == b - r) = true := by simp; omega
              have t2 : (dg 0 q % 2 == 1) = true := by rw [ed]; simp; omega
              clear hu h1 ed
              go_wp2_with fail
              go_region_with (first
                | (go_at_call 103; refine (ON.out _).mono ?_; rintro e w3 ⟨rfl, hb3⟩; replace hb3 := undrew hb3; obtain ⟨hc3, hf3, hz3⟩ := bcell hb3; have k3 : H < w3.heap.size := by omega)
                | (go_at_call 102; refine (PL.out _).mono ?_; rintro e w4 ⟨rfl, hb4⟩; obtain ⟨hc4, hf4, hz4⟩ := bcell hb4; have k4 : H < w4.heap.size := by omega))
              all_goals
                have b5 := set6 (.int .u64 (dg 0 (q + 1))) (.int .u64 (dg 1 (q + 1))) (.int .u64 (dg 2 (q + 1))) (.int .u64 (dg 3 (q + 1))) (.int .u64 (dg 4 (q + 1))) (.int .u64 (dg 5 (q + 1))) ((hb4.block H (by omega)).trans ((hb3.block H kG).trans HM.out))
                have B5 : Below w.heap.size w _ := hB.trans ((hb3.mono (by have := hB.size; omega)).trans ((hb4.mono (by have := hB.size; omega)).trans (set6_below (g := H) (.int .u64 (dg 0 (q + 1))) (.int .u64 (dg 1 (q + 1))) (.int .u64 (dg 2 (q + 1))) (.int .u64 (dg 3 (q + 1))) (.int .u64 (dg 4 (q + 1))) (.int .u64 (dg 5 (q + 1))) (Nat.le_of_lt hGw'))))
                have o0 := cell_of_row _ H 0 _ _ _ b5
                have o1 := cell_of_row _ H 1 _ _ _ b5
                have o2 := cell_of_row _ H 2 _ _ _ b5
                have o3 := cell_of_row _ H 3 _ _ _ b5
                have o4 := cell_of_row _ H 4 _ _ _ b5
                have o5 := cell_of_row _ H 5 _ _ _ b5
                simp only [List.getElem?_toArray, List.getElem?_cons_zero, List.getElem?_cons_succ] at o0 o1 o2 o3 o4 o5
                have z5 := B5.size
                clear b5 hc3 hf3 hc4 hf4 y0 y1 y2 y3 y4 y5 yf
                go_wp2_with (go_at_call 106; refine (CL.out _).mono ?_; rintro e w5 ⟨rfl, hb5⟩)
                go_ret2
                exact ⟨rfl, B5.trans (hb5.mono z5)⟩
          · rw [if_neg hu] at hup
            rw [hup] at HR
            have CL := Lib.hid (fun W => clamp02_any q f ⟨hq0, hq1⟩ W)
            rw [HR] at CL
            subst hf
            clear hup hq2 HR
            have h2 : ¬ b - r < r := by omega
            by_cases h1 : r = b - r
            · have t1 : (r == b - r) = true := by simpa using h1
              have t2 : (dg 0 q % 2 == 1) = false := by rw [ed]; simp; omega
              clear hu h1 ed
              go_wp2_with (go_at_call 106; refine (CL.out _).mono ?_; rintro e w3 ⟨rfl, hb3⟩)
              go_ret2
              exact ⟨rfl, hB.trans (hb3.mono (by have := hB.size; omega))⟩
            · have t1 : (r == b - r) = false := by simpa using h1
              clear hu h1 ed
              go_wp2_with (go_at_call 106; refine (CL.out _).mono ?_; rintro e w3 ⟨rfl, hb3⟩)
              go_ret2
              exact ⟨rfl, hB.trans (hb3.mono (by have := hB.size; omega))⟩
    · obtain ⟨i, rfl⟩ : ∃ i, k' = i + 1 := ⟨k' - 1, by omega⟩
      have hi : i < 6 := by omega
      have ia : (0 : Int) ≤ (i : Int) := by omega
      have ib : (i : Int) < 6 := by omega
      rw [show ((i + 1 : Nat) : Int) - 1 = (i : Int) by omega]
      have AT := Lib.hid (And.intro hM (And.intro hQ hB))
      clear hM hQ hB
      go_wp2
      go_loopw [10, 12] (fun r i2 wr => ∃ j : Nat, j ≤ 32 ∧ i2 = .int .i64 ((j : Int) - 1) ∧ r = .int .u64 (rsQ m b i j) ∧ QAt w wr G (G + 1) m (dnV i (qdI m b i j) q)) (fun _ i2 _ => (intOf i2 + 1).toNat)
      case atStart =>
        obtain ⟨e1, e2⟩ := quo_begin m b i
        exact ⟨32, by omega, rfl, by rw [e2], AT.out.1, by rw [e1, dnV_zero i q hi]; exact AT.out.2.1, AT.out.2.2⟩
      case round =>
        obtain ⟨j', hj, rfl, rfl, hM, hQ, hB⟩ := hrel
        rcases Nat.eq_zero_or_pos j' with h0 | h0
        · subst h0
          have K := Lib.hid (And.intro hM (And.intro hQ hB))
          clear hM hQ hB
          go_wp2
          go_roundw
          case rel => exact ⟨i, by omega, by simp, rfl, K.out.1, by rw [← dnV_full i q hi]; have := K.out.2.1; rw [quo_done, ← HQ.out] at this; exact this, K.out.2.2⟩
          case measure => simp [intOf]
        · obtain ⟨j, rfl⟩ : ∃ j, j' = j + 1 := ⟨j' - 1, by omega⟩
          have hj2 : j < 32 := by omega
          have ja : (0 : Int) ≤ (j : Int) := by omega
          have jb : (j : Int) < 64 := by omega
          rw [show ((j + 1 : Nat) : Int) - 1 = (j : Int) by omega]
          obtain ⟨s1, s2, s3, s4, s5, s6, s7⟩ := quo_step m b i j b0 hj2
          obtain ⟨d0, d1⟩ := dg_in i m
          have r1 := (Dg.of hM).2 i hi
          have r2 := (fill_get hQ (k := i) (by rw [dnV_size]; omega))
          have lG := lt_of_block hM
          have lH := lt_of_block hQ
          obtain ⟨t, ht⟩ : ∃ t, t = dg i m / 2 ^ j % 2 := ⟨_, rfl⟩
          have et : (dg i m / 2 ^ j).tmod 2 = t := by
            rw [Int.tmod_eq_emod_of_nonneg (Int.ediv_nonneg d0 (by have := pw_pos j; omega)), ht]
          rw [← ht] at s5 s6 s7
          obtain ⟨t0, t1⟩ : 0 ≤ t ∧ t ≤ 1 := by omega
          have c2 : wr.cell? ⟨G + 1, i, none⟩ = some (.int .u64 (qdI m b i (j + 1))) := by
            rw [cell_of_row wr (G + 1) i _ _ _ hQ]; exact dnV_get i _ q hi
          have f2 := r2.2.1
          have Q2 := Lib.hid r2.2.2
          have K := Lib.hid (And.intro hM hB)
          clear r2 hM hQ hB ht
          by_cases hge : b ≤ 2 * rsQ m b i (j + 1) + t
          · obtain ⟨e6, e7⟩ := s7 hge
            have E6 := Lib.hid e6
            have E7 := Lib.hid e7
            clear s5 s6 s7 e6 e7
            go_wp2
            have h2 := Q2.out (.int .u64 (2 * qdI m b i (j + 1)))
            rw [dnV_set] at h2
            have h3 := (fill_get h2 (k := i) (by rw [dnV_size]; omega)).2.2 (.int .u64 (2 * qdI m b i (j + 1) + 1))
            rw [dnV_set] at h3
            have B2 := (bel_d (G + 1) wr ⟨G + 1, i, none⟩ (.int .u64 (2 * qdI m b i (j + 1))) (Nat.le_refl _)).trans (bel_d (G + 1) _ ⟨G + 1, i, none⟩ (.int .u64 (2 * qdI m b i (j + 1) + 1)) (Nat.le_refl _))
            go_roundw
            case rel => exact ⟨j, by omega, rfl, by rw [E6.out], (B2.block G (by omega)).trans K.out.1, by rw [← E7.out]; exact h3, K.out.2.trans (B2.mono (by omega))⟩
            case measure => simp [intOf]
          · obtain ⟨e6, e7⟩ := s6 hge
            have E6 := Lib.hid e6
            have E7 := Lib.hid e7
            clear s5 s6 s7 e6 e7
            go_wp2
            have h2 := Q2.out (.int .u64 (2 * qdI m b i (j + 1)))
            rw [dnV_set] at h2
            have B2 := bel_d (G + 1) wr ⟨G + 1, i, none⟩ (.int .u64 (2 * qdI m b i (j + 1))) (Nat.le_refl _)
            go_roundw
            case rel => exact ⟨j, by omega, rfl, by rw [E6.out], (B2.block G (by omega)).trans K.out.1, by rw [← E7.out]; exact h2, K.out.2.trans (B2.mono (by omega))⟩
            case measure => simp [intOf]
end Go.Proofs.Ytikjomekhnkgcaa
