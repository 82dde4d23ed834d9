import Derived.Test.YtikjomekhnkgcaaE8
/- Vectors as long as may be, and longer. -/
namespace Go.Proofs.Ytikjomekhnkgcaa
open Go.RowKit
attribute [local go_sem ↓] Go.wp_at_zero Go.wp_at_succ

set_option maxHeartbeats 4000000 in
set_option maxRecDepth 100000 in
theorem vouter_gen (A B : Option Addr) (n m cp cq : Nat) (xs ys : List Int) (U : Value) (u : Option Nat) (c : Int) (w : World) (hxs : All64 xs) (hys : All64 ys) (hn : n ≤ 65536) (hm : m ≤ 65536) (hnm : n * m ≤ 65536) (hn0 : 0 < n) (hm0 : 0 < m)
    (hx : Rd w u A n xs) (hy : Rd w u B m ys) (hU : Unt w U u c) (hc0 : 0 ≤ c) (hc : c < 900000000) :
    Calls Try.prog 27 #[U, .slice A n cp, .slice B m cq] w fun e w' => ∃ V, e = .returned (.tuple #[.agg #[.int .i64 n, .int .i64 m, V], .int .i64 0]) ∧ OwnF w.heap.size w' V (outL xs ys m n) ∧ w.grownBy w' u ∧ Unt w' U u (c + outC xs ys m n) := by
  have hmf : ∀ (fn : Fn) (first cap : Array Value) (w : World), (Instr.makeFunc fn first cap).run Try.prog w = .ok (.func fn first cap) w := fun _ _ _ _ => rfl
  have hul := hU.lt
  obtain ⟨p, hp⟩ : ∃ p, p = n * m := ⟨_, rfl⟩
  have hp1 : (n : Int) * (m : Int) = (p : Int) := by rw [hp, Int.natCast_mul]
  have i1 : IntKind.i64.wrap ((n : Int) * (m : Int)) = (p : Int) := by rw [hp1]; exact IntWalk.i64_in _ (by omega)
  have i2 : decide ((65536 : Int) < (p : Int)) = false := decide_eq_false (by omega)
  have e1 : ((n : Int) == 0) = false := beq_eq_false_iff_ne.mpr (by omega)
  have e2 : ((m : Int) == 0) = false := beq_eq_false_iff_ne.mpr (by omega)
  have FI := Lib.hid (fun W g hS => fits_yes g 0 2 2 (fun j => if j = 0 then A else B) (fun j => if j = 0 then n else m) (fun j => if j = 0 then cp else cq) W (by omega) hS (by intro j _; split <;> omega))
  have HX := Lib.hid hx
  have HY := Lib.hid hy
  have HU := Lib.hid hU
  have HNM := Lib.hid hnm
  obtain ⟨pU, rfl⟩ := hU.ptr
  clear hp hp1 hx hy hU hnm
  go_enter Try.func27, Try.ntmps27
  go_wp2_with (go_at_call 48; refine (FI.out _ _ (by intro j hj; match j, hj with | 0, _ => exact cell_of_row _ _ 0 _ _ _ (newest_at _ _ (by simp)) | 1, _ => exact cell_of_row _ _ 1 _ _ _ (newest_at _ _ (by simp)))).mono ?_; rintro e w1 ⟨rfl, rfl⟩)
  refine at_world fun W1 hW1 => ?_
  have HI : OUT w W1 (w.heap.size + 3) (.pointer pU) u c n m xs ys 0 (.slice none 0 0) := by
    subst hW1
    refine ⟨newest_at _ _ (by simp), World.ownsRow_nil _ _ _ _, gr_below (by repeat (first | (with_reducible exact Below.refl _ _) | (with_reducible assumption) | (with_reducible refine Below.drew ?_) | (with_reducible refine Below.alloc ?_ ?_ _) | (with_reducible refine Below.setCell ?_ ?_ _) | (with_reducible refine Below.trans ?_ (Below.mono hb ?_)) | (with_reducible refine Below.trans ?_ (Below.mono hb1 ?_)) | (with_reducible refine Below.trans ?_ (Below.mono hb2 ?_)) | (with_reducible refine Below.trans ?_ (Below.mono hb3 ?_)) | (with_reducible refine Below.trans ?_ (Below.mono hb4 ?_)) | (with_reducible refine Below.trans ?_ (Below.mono hb5 ?_)) | (with_reducible refine Below.trans ?_ (Below.mono hb6 ?_)) | (with_reducible refine Below.trans ?_ (Below.mono hb7 ?_)) | (with_reducible refine Below.trans ?_ (Below.mono hb8 ?_)) | (with_reducible refine Below.trans ?_ (Below.mono hb9 ?_)) | (focus (first | omega | (simp; done) | (simp; omega))) | exact hB)) u, ?_, ?_, ?_, by omega⟩
    · rw [show outC xs ys m 0 = 0 from rfl, Int.add_zero]
      exact HU.out.call (by repeat (first | (with_reducible exact Below.refl _ _) | (with_reducible assumption) | (with_reducible refine Below.drew ?_) | (with_reducible refine Below.alloc ?_ ?_ _) | (with_reducible refine Below.setCell ?_ ?_ _) | (with_reducible refine Below.trans ?_ (Below.mono hb ?_)) | (with_reducible refine Below.trans ?_ (Below.mono hb1 ?_)) | (with_reducible refine Below.trans ?_ (Below.mono hb2 ?_)) | (with_reducible refine Below.trans ?_ (Below.mono hb3 ?_)) | (with_reducible refine Below.trans ?_ (Below.mono hb4 ?_)) | (with_reducible refine Below.trans ?_ (Below.mono hb5 ?_)) | (with_reducible refine Below.trans ?_ (Below.mono hb6 ?_)) | (with_reducible refine Below.trans ?_ (Below.mono hb7 ?_)) | (with_reducible refine Below.trans ?_ (Below.mono hb8 ?_)) | (with_reducible refine Below.trans ?_ (Below.mono hb9 ?_)) | (focus (first | omega | (simp; done) | (simp; omega))) | exact hB))
    · exact hp_alloc (hp_alloc (hp_alloc (heap_alloc_new w _) _) _) _
    · exact hp_alloc (hp_alloc (newest_at (w.alloc _) _ (World.size_alloc _ _).symm) _) _
  clear hW1
  obtain ⟨T, hT⟩ : ∃ T, T = w.heap.size + 3 := ⟨_, rfl⟩
  have hT2 : w.heap.size + 1 + 1 + 1 = T := by omega
  rw [← hT] at HI
  rw [hT2]
  clear hT hT2
  go_loopw [43] (fun i wr => ∃ k : Nat, k ≤ n ∧ i = .int .i64 k ∧ ∃ V, OUT w wr T (.pointer pU) u c n m xs ys k V) (fun i _ => n - (intOf i).toNat)
  case atStart => exact ⟨0, Nat.zero_le _, rfl, _, HI⟩
  case round =>
    clear HI
    obtain ⟨k, hk, rfl, V, bT, hO, hG, hV, bU, bR, hwT⟩ := hrel
    have lT := lt_of_block bT
    have hcb := outC_bd xs ys m k
    by_cases hlt : k < n
    · obtain ⟨b1, o1, rfl, l1, _, c1⟩ := (HX.out.grown hG).2 (by omega)
      replace c1 := c1 k hlt
      have ia : (0 : Int) ≤ (k : Int) := by omega
      have ib : (k : Int) < (n : Int) := by omega
      have hkm : k * m + m ≤ 65536 := by
        have h1 : (k + 1) * m ≤ n * m := Nat.mul_le_mul_right m (by omega)
        have h2 := HNM.out
        rw [Nat.succ_mul] at h1
        omega
      have x64 := hxs k
      obtain ⟨x, hxv⟩ : ∃ x, x = xs.getD k 0 := ⟨_, rfl⟩
      rw [← hxv] at c1 x64
      have HXV := Lib.hid hxv
      clear hxv
      go_wp2_with fail
      refine at_world fun W2 hW2 => ?_
      have BW2 : Below wr.heap.size wr W2 := by subst hW2; exact (Below.refl _ _).alloc (Nat.le_refl _) _
      have bx : W2.heap[wr.heap.size]? = some (.cells #[.int .i64 x] 28 (0, 0)) := by subst hW2; exact heap_alloc_new wr _
      have bT2 := hp_call bT BW2
      have bU2 := hp_call bU BW2
      have bR2 := hp_call bR BW2
      have hO2 : OwnF (T + 1) W2 V (outL xs ys m k) := OwnF.low hO BW2
      have hG2 := gr_call hG BW2
      have hV2 := hV.call BW2
      have rY2 := HY.out.grown hG2
      clear hW2 bT bU bR hO hG hV BW2 c1 l1
      generalize wr.heap.size = P at *
      have t2 := cell_of_row W2 T 2 _ _ _ bT2
      have u0 := cell_of_row W2 w.heap.size 0 _ _ _ bU2
      have x0 := cell_of_row W2 P 0 _ _ _ bx
      simp only [List.getElem?_toArray, List.getElem?_cons_zero, List.getElem?_cons_succ] at t2 u0 x0
      have n3 : some w.heap.size ≠ u := fun e => by have := hul _ e.symm; omega
      have hPu : some P ≠ u := fun e => by have := hul _ e.symm; have := lt_of_block bT2; omega
      have nT : ¬ some T = u := fun e => by have := hul _ e.symm; omega
      have EA := Lib.hid (fun W hr hU' hl h3 h4 => each_otr m cq B ys (mulV x ys) (.pointer pU) u (c + outC xs ys m k) (.pointer (some ⟨w.heap.size, 0, none⟩)) (.pointer (some ⟨P, 0, none⟩)) W (by omega) hr hU' (by omega) (by omega) hl
        (fun i c1 wq hi hG hV h0 h1 => otr1_any i x (ys.getD i 0) c1 _ u _ _ x64 (hys i) wq (mulK hG h3 h4 n3 hPu).1 (mulK hG h3 h4 n3 hPu).2 hV h0 h1))
      have lT2 := lt_of_block bT2
      have lP2 := lt_of_block bx
      have HT2 := Lib.hid bT2
      have HU2 := Lib.hid bU2
      have HR2 := Lib.hid bR2
      clear bT2 bU2 bR2 bx
      have HI0 := Lib.hid (info_parts infoFix)
      have HV := Lib.hid (World.ownsRow.lt (own_km hO2 (outL_len _ _ _ _)))
      go_region_law ((first
        | (go_simp; go_at_call 54; refine (EA.out _ (rY2.drew) (hV2.drew) (fun g hg => Nat.lt_of_lt_of_le (hul g hg) hG2.size) u0 x0).mono ?_; rintro e y1 ⟨V1, rfl, hO1, hg1, hU1⟩; obtain ⟨A1, c1, rfl, r1⟩ := own_rd4 hO1 (rowI_length _ _); have y2 := (gr_cell hg1 (x := T) (o := 2) lT2 nT).trans t2)
        | (obtain ⟨i0, hi, yz0, yz1, yz2⟩ := HI0.out; refine step_app_all (by rfl) _ _ _ (by rfl) (T + 1) 28 i0 (.int .i64 0) Try.underlying22 hi yz0 yz1 yz2 rfl V (k * m) _ (by rfl) (own_km (OwnF.grown (OwnF.drew hO2) hg1 (fun g e => by have := hul g e; omega)) (outL_len _ _ _ _)) none A1 m c1 (rowI (mulV x ys) m) (by rfl) r1 (by omega) (by have := hg1.size; have hz : W2.drew.heap.size = W2.heap.size := rfl; omega) ?_; clear hi yz0 yz1 yz2; intro v' w5 hown5 hg5 _; obtain ⟨g5, c5, rfl, _⟩ := hown5.form (by omega); have bT5 := hp_grown (hp_grown HT2.out (gr_trans (gr_drew (World.grownBy.refl W2 u)) hg1) nT) hg5 (fun e => by have := (HV.out T e.symm).1; omega); have y5 := cell_of_row w5 T 2 _ _ _ bT5; simp only [List.getElem?_toArray, List.getElem?_cons_zero, List.getElem?_cons_succ] at y5; have yf : ∀ i, w5.frozen? ⟨T, i, none⟩ = false := (fun i => by simp [World.frozen?, bT5]); have HB5 := Lib.hid bT5; clear bT5)))
      all_goals
        go_wp2_with fail
        go_roundw
        case rel => exact ⟨k + 1, by omega, by simp, _, OUT.next HT2.out hO2 hG2 HU2.out HR2.out hwT hul hg1 hU1 hown5 hg5 HB5.out HXV.out⟩
        case measure => simp [intOf]; omega
    · obtain rfl : k = n := by omega
      have hkm : 0 < k * m := Nat.mul_pos hn0 hm0
      obtain ⟨gV, cV, rfl, _⟩ := (own_km hO (outL_len _ _ _ _)).form hkm
      have t0 := cell_of_row wr T 0 _ _ _ bT
      have t1 := cell_of_row wr T 1 _ _ _ bT
      have t2 := cell_of_row wr T 2 _ _ _ bT
      have r0 := cell_of_row wr (w.heap.size + 1) 0 _ _ _ bR
      have r1 := cell_of_row wr (w.heap.size + 1) 1 _ _ _ bR
      have r2 := cell_of_row wr (w.heap.size + 1) 2 _ _ _ bR
      have rf : ∀ i, wr.frozen? ⟨w.heap.size + 1, i, none⟩ = false := fun i => by simp [World.frozen?, bR]
      simp only [List.getElem?_toArray, List.getElem?_cons_zero, List.getElem?_cons_succ] at t0 t1 t2 r0 r1 r2
      have lR := lt_of_block bR
      have z1 : ¬ T = w.heap.size + 1 := by omega
      have hO3 : OwnF (T + 1) (((wr.setCell ⟨w.heap.size + 1, 0, none⟩ (.int .i64 k)).setCell ⟨w.heap.size + 1, 1, none⟩ (.int .i64 m)).setCell ⟨w.heap.size + 1, 2, none⟩ (.slice (some ⟨gV, 0, none⟩) (k * m) cV)) (.slice (some ⟨gV, 0, none⟩) (k * m) cV) (outL xs ys m k) :=
        ((OwnF.setBelow hO (show w.heap.size + 1 < T + 1 by omega) _).setBelow (show w.heap.size + 1 < T + 1 by omega) _).setBelow (show w.heap.size + 1 < T + 1 by omega) _
      have hG3 := gr_set (gr_set (gr_set hG (p := ⟨w.heap.size + 1, 0, none⟩) (show w.heap.size ≤ w.heap.size + 1 by omega) (.int .i64 k)) (p := ⟨w.heap.size + 1, 1, none⟩) (show w.heap.size ≤ w.heap.size + 1 by omega) (.int .i64 m)) (p := ⟨w.heap.size + 1, 2, none⟩) (show w.heap.size ≤ w.heap.size + 1 by omega) (.slice (some ⟨gV, 0, none⟩) (k * m) cV)
      have nu : ∀ g, u = some g → g ≠ w.heap.size + 1 := fun g e => by have := hul g e; omega
      have hV3 := ((hV.setc (p := ⟨w.heap.size + 1, 0, none⟩) nu (.int .i64 k)).setc (p := ⟨w.heap.size + 1, 1, none⟩) nu (.int .i64 m)).setc (p := ⟨w.heap.size + 1, 2, none⟩) nu (.slice (some ⟨gV, 0, none⟩) (k * m) cV)
      clear hO hG hV bU bT
      go_wp2_with fail
      exact bodyPost_ret (v := .tuple #[.agg #[.int .i64 k, .int .i64 m, (.slice (some ⟨gV, 0, none⟩) (k * m) cV)], .int .i64 0]) (by simp [*, results, Try.results27, go_sem]) rfl ⟨(.slice (some ⟨gV, 0, none⟩) (k * m) cV), rfl, hO3.base (by omega), hG3, hV3⟩

theorem pair_big (A B : Option Addr) (n m cp cq : Nat) (w : World) (hn : 65536 < n) :
    Calls Try.prog 51 #[.slice A n cp, .slice B m cq] w fun e w' => e = .returned (.int .i64 3) ∧ Below w.heap.size w w' := by
  have FI := Lib.hid (fun W g hS => fits_no g 0 2 2 0 (fun j => if j = 0 then A else B) (fun j => if j = 0 then n else m) (fun j => if j = 0 then cp else cq) W (by omega) hS (fun j hj => absurd hj (by omega)) (by omega) hn)
  go_enter Try.func51, Try.ntmps51
  go_wp2_with (go_at_call 48; refine (FI.out _ _ (by intro j hj; match j, hj with | 0, _ => exact cell_of_row _ _ 0 _ _ _ (newest_at _ _ (by simp)) | 1, _ => exact cell_of_row _ _ 1 _ _ _ (newest_at _ _ (by simp)))).mono ?_; rintro e w1 ⟨rfl, rfl⟩)
  go_ret
  exact ⟨rfl, (by repeat (first | (with_reducible exact Below.refl _ _) | (with_reducible assumption) | (with_reducible refine Below.drew ?_) | (with_reducible refine Below.alloc ?_ ?_ _) | (with_reducible refine Below.setCell ?_ ?_ _) | (with_reducible refine Below.trans ?_ (Below.mono hb ?_)) | (with_reducible refine Below.trans ?_ (Below.mono hb1 ?_)) | (with_reducible refine Below.trans ?_ (Below.mono hb2 ?_)) | (with_reducible refine Below.trans ?_ (Below.mono hb3 ?_)) | (with_reducible refine Below.trans ?_ (Below.mono hb4 ?_)) | (with_reducible refine Below.trans ?_ (Below.mono hb5 ?_)) | (with_reducible refine Below.trans ?_ (Below.mono hb6 ?_)) | (with_reducible refine Below.trans ?_ (Below.mono hb7 ?_)) | (with_reducible refine Below.trans ?_ (Below.mono hb8 ?_)) | (with_reducible refine Below.trans ?_ (Below.mono hb9 ?_)) | (focus (first | omega | (simp; done) | (simp; omega))) | exact hB))⟩
theorem big_Sum (A : Option Addr) (n cp : Nat) (w : World) (hn : 65536 < n) :
    Calls Try.prog 39 #[.pointer none, .slice A n cp] w fun e w' => e = .returned (.tuple #[.int .i64 0, .int .i64 3]) ∧ Below w.heap.size w w' := by
  go_enter Try.func39, Try.ntmps39
  go_wp2_with (go_at_call 48; refine (fits1_no A n cp _ _ (cell_of_row _ _ 0 _ _ _ (newest_at _ _ (by simp))) hn).mono ?_; rintro e w1 ⟨rfl, rfl⟩)
  go_ret2
  exact ⟨rfl, (by repeat (first | (with_reducible exact Below.refl _ _) | (with_reducible assumption) | (with_reducible refine Below.drew ?_) | (with_reducible refine Below.alloc ?_ ?_ _) | (with_reducible refine Below.setCell ?_ ?_ _) | (with_reducible refine Below.trans ?_ (Below.mono hb ?_)) | (with_reducible refine Below.trans ?_ (Below.mono hb1 ?_)) | (with_reducible refine Below.trans ?_ (Below.mono hb2 ?_)) | (with_reducible refine Below.trans ?_ (Below.mono hb3 ?_)) | (with_reducible refine Below.trans ?_ (Below.mono hb4 ?_)) | (with_reducible refine Below.trans ?_ (Below.mono hb5 ?_)) | (with_reducible refine Below.trans ?_ (Below.mono hb6 ?_)) | (with_reducible refine Below.trans ?_ (Below.mono hb7 ?_)) | (with_reducible refine Below.trans ?_ (Below.mono hb8 ?_)) | (with_reducible refine Below.trans ?_ (Below.mono hb9 ?_)) | (focus (first | omega | (simp; done) | (simp; omega))) | exact hB))⟩
theorem big_Norm (A : Option Addr) (n cp : Nat) (w : World) (hn : 65536 < n) :
    Calls Try.prog 47 #[.pointer none, .slice A n cp] w fun e w' => e = .returned (.tuple #[.int .i64 0, .int .i64 3]) ∧ Below w.heap.size w w' := by
  go_enter Try.func47, Try.ntmps47
  go_wp2_with (go_at_call 48; refine (fits1_no A n cp _ _ (cell_of_row _ _ 0 _ _ _ (newest_at _ _ (by simp))) hn).mono ?_; rintro e w1 ⟨rfl, rfl⟩)
  go_ret2
  exact ⟨rfl, (by repeat (first | (with_reducible exact Below.refl _ _) | (with_reducible assumption) | (with_reducible refine Below.drew ?_) | (with_reducible refine Below.alloc ?_ ?_ _) | (with_reducible refine Below.setCell ?_ ?_ _) | (with_reducible refine Below.trans ?_ (Below.mono hb ?_)) | (with_reducible refine Below.trans ?_ (Below.mono hb1 ?_)) | (with_reducible refine Below.trans ?_ (Below.mono hb2 ?_)) | (with_reducible refine Below.trans ?_ (Below.mono hb3 ?_)) | (with_reducible refine Below.trans ?_ (Below.mono hb4 ?_)) | (with_reducible refine Below.trans ?_ (Below.mono hb5 ?_)) | (with_reducible refine Below.trans ?_ (Below.mono hb6 ?_)) | (with_reducible refine Below.trans ?_ (Below.mono hb7 ?_)) | (with_reducible refine Below.trans ?_ (Below.mono hb8 ?_)) | (with_reducible refine Below.trans ?_ (Below.mono hb9 ?_)) | (focus (first | omega | (simp; done) | (simp; omega))) | exact hB))⟩
theorem big_Mean (A : Option Addr) (n cp : Nat) (w : World) (hn : 65536 < n) :
    Calls Try.prog 40 #[.pointer none, .slice A n cp] w fun e w' => e = .returned (.tuple #[.int .i64 0, .int .i64 3]) ∧ Below w.heap.size w w' := by
  go_enter Try.func40, Try.ntmps40
  go_wp2_with (go_at_call 48; refine (fits1_no A n cp _ _ (cell_of_row _ _ 0 _ _ _ (newest_at _ _ (by simp))) hn).mono ?_; rintro e w1 ⟨rfl, rfl⟩)
  go_ret2
  exact ⟨rfl, (by repeat (first | (with_reducible exact Below.refl _ _) | (with_reducible assumption) | (with_reducible refine Below.drew ?_) | (with_reducible refine Below.alloc ?_ ?_ _) | (with_reducible refine Below.setCell ?_ ?_ _) | (with_reducible refine Below.trans ?_ (Below.mono hb ?_)) | (with_reducible refine Below.trans ?_ (Below.mono hb1 ?_)) | (with_reducible refine Below.trans ?_ (Below.mono hb2 ?_)) | (with_reducible refine Below.trans ?_ (Below.mono hb3 ?_)) | (with_reducible refine Below.trans ?_ (Below.mono hb4 ?_)) | (with_reducible refine Below.trans ?_ (Below.mono hb5 ?_)) | (with_reducible refine Below.trans ?_ (Below.mono hb6 ?_)) | (with_reducible refine Below.trans ?_ (Below.mono hb7 ?_)) | (with_reducible refine Below.trans ?_ (Below.mono hb8 ?_)) | (with_reducible refine Below.trans ?_ (Below.mono hb9 ?_)) | (focus (first | omega | (simp; done) | (simp; omega))) | exact hB))⟩
theorem big_Scale (A : Option Addr) (n cp : Nat) (w : World) (hn : 65536 < n) :
    Calls Try.prog 30 #[.pointer none, .int .i64 1, .slice A n cp] w fun e w' => e = .returned (.tuple #[.slice none 0 0, .int .i64 3]) ∧ Below w.heap.size w w' := by
  go_enter Try.func30, Try.ntmps30
  go_wp2_with (go_at_call 48; refine (fits1_no A n cp _ _ (cell_of_row _ _ 0 _ _ _ (newest_at _ _ (by simp))) hn).mono ?_; rintro e w1 ⟨rfl, rfl⟩)
  go_ret2
  exact ⟨rfl, (by repeat (first | (with_reducible exact Below.refl _ _) | (with_reducible assumption) | (with_reducible refine Below.drew ?_) | (with_reducible refine Below.alloc ?_ ?_ _) | (with_reducible refine Below.setCell ?_ ?_ _) | (with_reducible refine Below.trans ?_ (Below.mono hb ?_)) | (with_reducible refine Below.trans ?_ (Below.mono hb1 ?_)) | (with_reducible refine Below.trans ?_ (Below.mono hb2 ?_)) | (with_reducible refine Below.trans ?_ (Below.mono hb3 ?_)) | (with_reducible refine Below.trans ?_ (Below.mono hb4 ?_)) | (with_reducible refine Below.trans ?_ (Below.mono hb5 ?_)) | (with_reducible refine Below.trans ?_ (Below.mono hb6 ?_)) | (with_reducible refine Below.trans ?_ (Below.mono hb7 ?_)) | (with_reducible refine Below.trans ?_ (Below.mono hb8 ?_)) | (with_reducible refine Below.trans ?_ (Below.mono hb9 ?_)) | (focus (first | omega | (simp; done) | (simp; omega))) | exact hB))⟩
theorem big_Clip (A : Option Addr) (n cp : Nat) (w : World) (hn : 65536 < n) :
    Calls Try.prog 46 #[.pointer none, .slice A n cp, .int .i64 0] w fun e w' => e = .returned (.tuple #[.slice none 0 0, .bool false, .int .i64 3]) ∧ Below w.heap.size w w' := by
  go_enter Try.func46, Try.ntmps46
  go_wp2_with (go_at_call 48; refine (fits1_no A n cp _ _ (cell_of_row _ _ 0 _ _ _ (newest_at _ _ (by simp))) hn).mono ?_; rintro e w1 ⟨rfl, rfl⟩)
  go_ret3
  exact ⟨rfl, (by repeat (first | (with_reducible exact Below.refl _ _) | (with_reducible assumption) | (with_reducible refine Below.drew ?_) | (with_reducible refine Below.alloc ?_ ?_ _) | (with_reducible refine Below.setCell ?_ ?_ _) | (with_reducible refine Below.trans ?_ (Below.mono hb ?_)) | (with_reducible refine Below.trans ?_ (Below.mono hb1 ?_)) | (with_reducible refine Below.trans ?_ (Below.mono hb2 ?_)) | (with_reducible refine Below.trans ?_ (Below.mono hb3 ?_)) | (with_reducible refine Below.trans ?_ (Below.mono hb4 ?_)) | (with_reducible refine Below.trans ?_ (Below.mono hb5 ?_)) | (with_reducible refine Below.trans ?_ (Below.mono hb6 ?_)) | (with_reducible refine Below.trans ?_ (Below.mono hb7 ?_)) | (with_reducible refine Below.trans ?_ (Below.mono hb8 ?_)) | (with_reducible refine Below.trans ?_ (Below.mono hb9 ?_)) | (focus (first | omega | (simp; done) | (simp; omega))) | exact hB))⟩
theorem big_MatVec (A : Option Addr) (n cp : Nat) (w : World) (hn : 65536 < n) :
    Calls Try.prog 16 #[.pointer none, .agg #[.int .i64 0, .int .i64 0, .slice none 0 0], .slice A n cp] w fun e w' => e = .returned (.tuple #[.slice none 0 0, .int .i64 3]) ∧ Below w.heap.size w w' := by
  go_enter Try.func16, Try.ntmps16
  go_wp2_with (go_at_call 48; refine (fits1_no A n cp _ _ (cell_of_row _ _ 0 _ _ _ (newest_at _ _ (by simp))) hn).mono ?_; rintro e w1 ⟨rfl, rfl⟩)
  go_ret2
  exact ⟨rfl, (by repeat (first | (with_reducible exact Below.refl _ _) | (with_reducible assumption) | (with_reducible refine Below.drew ?_) | (with_reducible refine Below.alloc ?_ ?_ _) | (with_reducible refine Below.setCell ?_ ?_ _) | (with_reducible refine Below.trans ?_ (Below.mono hb ?_)) | (with_reducible refine Below.trans ?_ (Below.mono hb1 ?_)) | (with_reducible refine Below.trans ?_ (Below.mono hb2 ?_)) | (with_reducible refine Below.trans ?_ (Below.mono hb3 ?_)) | (with_reducible refine Below.trans ?_ (Below.mono hb4 ?_)) | (with_reducible refine Below.trans ?_ (Below.mono hb5 ?_)) | (with_reducible refine Below.trans ?_ (Below.mono hb6 ?_)) | (with_reducible refine Below.trans ?_ (Below.mono hb7 ?_)) | (with_reducible refine Below.trans ?_ (Below.mono hb8 ?_)) | (with_reducible refine Below.trans ?_ (Below.mono hb9 ?_)) | (focus (first | omega | (simp; done) | (simp; omega))) | exact hB))⟩
theorem matvec_no5 (U : Value) (r c : Int) (A B : Option Addr) (n m cp cq : Nat) (w : World) (hm : m ≤ 65536) (h : ¬ (MatOk r c n ∧ (m : Int) = c)) :
    Calls Try.prog 16 #[U, .agg #[.int .i64 r, .int .i64 c, .slice A n cp], .slice B m cq] w fun e w' => e = .returned (.tuple #[.slice none 0 0, .int .i64 40]) ∧ Below w.heap.size w w' := by
  have FI := Lib.hid (fun g W h => fits1_yes B m cq g W h hm)
  by_cases hM : MatOk r c n
  · have RI := Lib.hid (fun W => vright_ok r c A n cp W hM)
    have e1 : ((m : Int) != c) = true := by simp only [bne_iff_ne]; exact fun e => h ⟨hM, e⟩
    clear h hM
    go_enter Try.func16, Try.ntmps16
    go_wp2_with (first
      | (go_at_call 48; refine (FI.out _ _ (by simp)).mono ?_; rintro e w1 ⟨rfl, rfl⟩)
      | (go_at_call 15; refine (RI.out _).mono ?_; rintro e w2 ⟨rfl, hb2⟩; obtain ⟨hc2, hf2, hz2⟩ := bcell hb2; (try simp at hz2); (try have : w.heap.size < w2.heap.size := by omega); (try have : w.heap.size + 1 < w2.heap.size := by omega); (try have : w.heap.size + 1 + 1 < w2.heap.size := by omega); (try have : w.heap.size + 1 + 1 + 1 < w2.heap.size := by omega); (try have : w1.heap.size < w2.heap.size := by omega); (try have : w1.heap.size + 1 < w2.heap.size := by omega); (try have : w1.heap.size + 1 + 1 < w2.heap.size := by omega); (try have : w1.heap.size + 1 + 1 + 1 < w2.heap.size := by omega); (try have : g < w2.heap.size := by omega); (try have : ga < w2.heap.size := by omega); (try have : gb < w2.heap.size := by omega); (try have : gc < w2.heap.size := by omega); have hB : Below w.heap.size w w2 := (by repeat (first | (with_reducible exact Below.refl _ _) | (with_reducible assumption) | (with_reducible refine Below.drew ?_) | (with_reducible refine Below.alloc ?_ ?_ _) | (with_reducible refine Below.setCell ?_ ?_ _) | (with_reducible refine Below.trans ?_ (Below.mono hb ?_)) | (with_reducible refine Below.trans ?_ (Below.mono hb1 ?_)) | (with_reducible refine Below.trans ?_ (Below.mono hb2 ?_)) | (with_reducible refine Below.trans ?_ (Below.mono hb3 ?_)) | (with_reducible refine Below.trans ?_ (Below.mono hb4 ?_)) | (with_reducible refine Below.trans ?_ (Below.mono hb5 ?_)) | (with_reducible refine Below.trans ?_ (Below.mono hb6 ?_)) | (with_reducible refine Below.trans ?_ (Below.mono hb7 ?_)) | (with_reducible refine Below.trans ?_ (Below.mono hb8 ?_)) | (with_reducible refine Below.trans ?_ (Below.mono hb9 ?_)) | (focus (first | omega | (simp; done) | (simp; omega))) | exact hB))))
    go_ret2
    exact ⟨rfl, (by repeat (first | (with_reducible exact Below.refl _ _) | (with_reducible assumption) | (with_reducible refine Below.drew ?_) | (with_reducible refine Below.alloc ?_ ?_ _) | (with_reducible refine Below.setCell ?_ ?_ _) | (with_reducible refine Below.trans ?_ (Below.mono hb ?_)) | (with_reducible refine Below.trans ?_ (Below.mono hb1 ?_)) | (with_reducible refine Below.trans ?_ (Below.mono hb2 ?_)) | (with_reducible refine Below.trans ?_ (Below.mono hb3 ?_)) | (with_reducible refine Below.trans ?_ (Below.mono hb4 ?_)) | (with_reducible refine Below.trans ?_ (Below.mono hb5 ?_)) | (with_reducible refine Below.trans ?_ (Below.mono hb6 ?_)) | (with_reducible refine Below.trans ?_ (Below.mono hb7 ?_)) | (with_reducible refine Below.trans ?_ (Below.mono hb8 ?_)) | (with_reducible refine Below.trans ?_ (Below.mono hb9 ?_)) | (focus (first | omega | (simp; done) | (simp; omega))) | exact hB))⟩
  · have RI := Lib.hid (fun W => vright_no r c A n cp W hM)
    clear h hM
    go_enter Try.func16, Try.ntmps16
    go_wp2_with (first
      | (go_at_call 48; refine (FI.out _ _ (by simp)).mono ?_; rintro e w1 ⟨rfl, rfl⟩)
      | (go_at_call 15; refine (RI.out _).mono ?_; rintro e w2 ⟨rfl, hb2⟩; obtain ⟨hc2, hf2, hz2⟩ := bcell hb2; (try simp at hz2); (try have : w.heap.size < w2.heap.size := by omega); (try have : w.heap.size + 1 < w2.heap.size := by omega); (try have : w.heap.size + 1 + 1 < w2.heap.size := by omega); (try have : w.heap.size + 1 + 1 + 1 < w2.heap.size := by omega); (try have : w1.heap.size < w2.heap.size := by omega); (try have : w1.heap.size + 1 < w2.heap.size := by omega); (try have : w1.heap.size + 1 + 1 < w2.heap.size := by omega); (try have : w1.heap.size + 1 + 1 + 1 < w2.heap.size := by omega); (try have : g < w2.heap.size := by omega); (try have : ga < w2.heap.size := by omega); (try have : gb < w2.heap.size := by omega); (try have : gc < w2.heap.size := by omega); have hB : Below w.heap.size w w2 := (by repeat (first | (with_reducible exact Below.refl _ _) | (with_reducible assumption) | (with_reducible refine Below.drew ?_) | (with_reducible refine Below.alloc ?_ ?_ _) | (with_reducible refine Below.setCell ?_ ?_ _) | (with_reducible refine Below.trans ?_ (Below.mono hb ?_)) | (with_reducible refine Below.trans ?_ (Below.mono hb1 ?_)) | (with_reducible refine Below.trans ?_ (Below.mono hb2 ?_)) | (with_reducible refine Below.trans ?_ (Below.mono hb3 ?_)) | (with_reducible refine Below.trans ?_ (Below.mono hb4 ?_)) | (with_reducible refine Below.trans ?_ (Below.mono hb5 ?_)) | (with_reducible refine Below.trans ?_ (Below.mono hb6 ?_)) | (with_reducible refine Below.trans ?_ (Below.mono hb7 ?_)) | (with_reducible refine Below.trans ?_ (Below.mono hb8 ?_)) | (with_reducible refine Below.trans ?_ (Below.mono hb9 ?_)) | (focus (first | omega | (simp; done) | (simp; omega))) | exact hB))))
    go_ret2
    exact ⟨rfl, (by repeat (first | (with_reducible exact Below.refl _ _) | (with_reducible assumption) | (with_reducible refine Below.drew ?_) | (with_reducible refine Below.alloc ?_ ?_ _) | (with_reducible refine Below.setCell ?_ ?_ _) | (with_reducible refine Below.trans ?_ (Below.mono hb ?_)) | (with_reducible refine Below.trans ?_ (Below.mono hb1 ?_)) | (with_reducible refine Below.trans ?_ (Below.mono hb2 ?_)) | (with_reducible refine Below.trans ?_ (Below.mono hb3 ?_)) | (with_reducible refine Below.trans ?_ (Below.mono hb4 ?_)) | (with_reducible refine Below.trans ?_ (Below.mono hb5 ?_)) | (with_reducible refine Below.trans ?_ (Below.mono hb6 ?_)) | (with_reducible refine Below.trans ?_ (Below.mono hb7 ?_)) | (with_reducible refine Below.trans ?_ (Below.mono hb8 ?_)) | (with_reducible refine Below.trans ?_ (Below.mono hb9 ?_)) | (focus (first | omega | (simp; done) | (simp; omega))) | exact hB))⟩
theorem vdot_shape5 (A B : Option Addr) (n m cp cq : Nat) (U : Value) (w : World) (hn : n ≤ 65536) (hm : m ≤ 65536) (h : n ≠ m) :
    Calls Try.prog 18 #[U, .slice A n cp, .slice B m cq] w fun e w' => e = .returned (.tuple #[.int .i64 0, .int .i64 40]) ∧ Below w.heap.size w w' := by
  have PA := Lib.hid (fun W => pair_any A B n m cp cq W hn hm)
  rw [if_neg h] at PA
  go_enter Try.func18, Try.ntmps18
  go_wp2_with (go_at_call 51; refine (PA.out _).mono ?_; rintro e w1 ⟨rfl, hb1⟩; obtain ⟨hc1, hf1, hz1⟩ := bcell hb1; (try simp at hz1); (try have : w.heap.size < w1.heap.size := by omega); (try have : w.heap.size + 1 < w1.heap.size := by omega); (try have : w.heap.size + 1 + 1 < w1.heap.size := by omega); (try have : w.heap.size + 1 + 1 + 1 < w1.heap.size := by omega); (try have : g < w1.heap.size := by omega); (try have : ga < w1.heap.size := by omega); (try have : gb < w1.heap.size := by omega); (try have : gc < w1.heap.size := by omega); have hB : Below w.heap.size w w1 := (by repeat (first | (with_reducible exact Below.refl _ _) | (with_reducible assumption) | (with_reducible refine Below.drew ?_) | (with_reducible refine Below.alloc ?_ ?_ _) | (with_reducible refine Below.setCell ?_ ?_ _) | (with_reducible refine Below.trans ?_ (Below.mono hb ?_)) | (with_reducible refine Below.trans ?_ (Below.mono hb1 ?_)) | (with_reducible refine Below.trans ?_ (Below.mono hb2 ?_)) | (with_reducible refine Below.trans ?_ (Below.mono hb3 ?_)) | (with_reducible refine Below.trans ?_ (Below.mono hb4 ?_)) | (with_reducible refine Below.trans ?_ (Below.mono hb5 ?_)) | (with_reducible refine Below.trans ?_ (Below.mono hb6 ?_)) | (with_reducible refine Below.trans ?_ (Below.mono hb7 ?_)) | (with_reducible refine Below.trans ?_ (Below.mono hb8 ?_)) | (with_reducible refine Below.trans ?_ (Below.mono hb9 ?_)) | (focus (first | omega | (simp; done) | (simp; omega))) | exact hB)))
  go_ret2
  exact ⟨rfl, (by repeat (first | (with_reducible exact Below.refl _ _) | (with_reducible assumption) | (with_reducible refine Below.drew ?_) | (with_reducible refine Below.alloc ?_ ?_ _) | (with_reducible refine Below.setCell ?_ ?_ _) | (with_reducible refine Below.trans ?_ (Below.mono hb ?_)) | (with_reducible refine Below.trans ?_ (Below.mono hb1 ?_)) | (with_reducible refine Below.trans ?_ (Below.mono hb2 ?_)) | (with_reducible refine Below.trans ?_ (Below.mono hb3 ?_)) | (with_reducible refine Below.trans ?_ (Below.mono hb4 ?_)) | (with_reducible refine Below.trans ?_ (Below.mono hb5 ?_)) | (with_reducible refine Below.trans ?_ (Below.mono hb6 ?_)) | (with_reducible refine Below.trans ?_ (Below.mono hb7 ?_)) | (with_reducible refine Below.trans ?_ (Below.mono hb8 ?_)) | (with_reducible refine Below.trans ?_ (Below.mono hb9 ?_)) | (focus (first | omega | (simp; done) | (simp; omega))) | exact hB))⟩
theorem big_Dot (A B : Option Addr) (n m cp cq : Nat) (w : World) (hn : 65536 < n) :
    Calls Try.prog 18 #[.pointer none, .slice A n cp, .slice B m cq] w fun e w' => e = .returned (.tuple #[.int .i64 0, .int .i64 3]) ∧ Below w.heap.size w w' := by
  go_enter Try.func18, Try.ntmps18
  go_wp2_with (go_at_call 51; refine (pair_big A B n m cp cq _ hn).mono ?_; rintro e w1 ⟨rfl, hb1⟩; obtain ⟨hc1, hf1, hz1⟩ := bcell hb1; (try simp at hz1); (try have : w.heap.size < w1.heap.size := by omega); (try have : w.heap.size + 1 < w1.heap.size := by omega); (try have : w.heap.size + 1 + 1 < w1.heap.size := by omega); (try have : w.heap.size + 1 + 1 + 1 < w1.heap.size := by omega); (try have : g < w1.heap.size := by omega); (try have : ga < w1.heap.size := by omega); (try have : gb < w1.heap.size := by omega); (try have : gc < w1.heap.size := by omega); have hB : Below w.heap.size w w1 := (by repeat (first | (with_reducible exact Below.refl _ _) | (with_reducible assumption) | (with_reducible refine Below.drew ?_) | (with_reducible refine Below.alloc ?_ ?_ _) | (with_reducible refine Below.setCell ?_ ?_ _) | (with_reducible refine Below.trans ?_ (Below.mono hb ?_)) | (with_reducible refine Below.trans ?_ (Below.mono hb1 ?_)) | (with_reducible refine Below.trans ?_ (Below.mono hb2 ?_)) | (with_reducible refine Below.trans ?_ (Below.mono hb3 ?_)) | (with_reducible refine Below.trans ?_ (Below.mono hb4 ?_)) | (with_reducible refine Below.trans ?_ (Below.mono hb5 ?_)) | (with_reducible refine Below.trans ?_ (Below.mono hb6 ?_)) | (with_reducible refine Below.trans ?_ (Below.mono hb7 ?_)) | (with_reducible refine Below.trans ?_ (Below.mono hb8 ?_)) | (with_reducible refine Below.trans ?_ (Below.mono hb9 ?_)) | (focus (first | omega | (simp; done) | (simp; omega))) | exact hB)))
  go_ret2
  exact ⟨rfl, (by repeat (first | (with_reducible exact Below.refl _ _) | (with_reducible assumption) | (with_reducible refine Below.drew ?_) | (with_reducible refine Below.alloc ?_ ?_ _) | (with_reducible refine Below.setCell ?_ ?_ _) | (with_reducible refine Below.trans ?_ (Below.mono hb ?_)) | (with_reducible refine Below.trans ?_ (Below.mono hb1 ?_)) | (with_reducible refine Below.trans ?_ (Below.mono hb2 ?_)) | (with_reducible refine Below.trans ?_ (Below.mono hb3 ?_)) | (with_reducible refine Below.trans ?_ (Below.mono hb4 ?_)) | (with_reducible refine Below.trans ?_ (Below.mono hb5 ?_)) | (with_reducible refine Below.trans ?_ (Below.mono hb6 ?_)) | (with_reducible refine Below.trans ?_ (Below.mono hb7 ?_)) | (with_reducible refine Below.trans ?_ (Below.mono hb8 ?_)) | (with_reducible refine Below.trans ?_ (Below.mono hb9 ?_)) | (focus (first | omega | (simp; done) | (simp; omega))) | exact hB))⟩
theorem big_Outer (A B : Option Addr) (n m cp cq : Nat) (w : World) (hn : 65536 < n) :
    Calls Try.prog 27 #[.pointer none, .slice A n cp, .slice B m cq] w fun e w' => e = .returned (.tuple #[.agg #[.int .i64 0, .int .i64 0, .slice none 0 0], .int .i64 3]) ∧ Below w.heap.size w w' := by
  have FI := Lib.hid (fun W g hS => fits_no g 0 2 2 0 (fun j => if j = 0 then A else B) (fun j => if j = 0 then n else m) (fun j => if j = 0 then cp else cq) W (by omega) hS (fun j hj => absurd hj (by omega)) (by omega) hn)
  go_enter Try.func27, Try.ntmps27
  go_wp2_with (go_at_call 48; refine (FI.out _ _ (by intro j hj; match j, hj with | 0, _ => exact cell_of_row _ _ 0 _ _ _ (newest_at _ _ (by simp)) | 1, _ => exact cell_of_row _ _ 1 _ _ _ (newest_at _ _ (by simp)))).mono ?_; rintro e w1 ⟨rfl, rfl⟩)
  exact bodyPost_ret (v := .tuple #[.agg #[.int .i64 0, .int .i64 0, .slice none 0 0], .int .i64 3]) (by simp [*, results, Try.results27, go_sem]) rfl ⟨rfl, (by repeat (first | (with_reducible exact Below.refl _ _) | (with_reducible assumption) | (with_reducible refine Below.drew ?_) | (with_reducible refine Below.alloc ?_ ?_ _) | (with_reducible refine Below.setCell ?_ ?_ _) | (with_reducible refine Below.trans ?_ (Below.mono hb ?_)) | (with_reducible refine Below.trans ?_ (Below.mono hb1 ?_)) | (with_reducible refine Below.trans ?_ (Below.mono hb2 ?_)) | (with_reducible refine Below.trans ?_ (Below.mono hb3 ?_)) | (with_reducible refine Below.trans ?_ (Below.mono hb4 ?_)) | (with_reducible refine Below.trans ?_ (Below.mono hb5 ?_)) | (with_reducible refine Below.trans ?_ (Below.mono hb6 ?_)) | (with_reducible refine Below.trans ?_ (Below.mono hb7 ?_)) | (with_reducible refine Below.trans ?_ (Below.mono hb8 ?_)) | (with_reducible refine Below.trans ?_ (Below.mono hb9 ?_)) | (focus (first | omega | (simp; done) | (simp; omega))) | exact hB))⟩
end Go.Proofs.Ytikjomekhnkgcaa
