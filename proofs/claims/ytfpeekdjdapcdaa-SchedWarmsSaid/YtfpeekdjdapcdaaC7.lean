import Derived.Test.YtfpeekdjdapcdaaC6
/- The document's rate; what the laws of chapter 8 make of what comes in. -/
namespace Go.Proofs.Ytfpeekdjdapcdaa
open Go.RowKit
attribute [local go_sem ↓] Go.wp_at_zero Go.wp_at_succ

theorem quo_of_mul (base t warm : Int) (hb : In64 base) (ht : In64 t) (hw : In64 warm) (hw0 : warm ≠ 0) : ∃ P N : Int,
    (∀ W, Calls Try.prog 28 #[.agg #[.int .u64 0, .int .u64 0, .int .u64 0, .int .u64 0, .int .u64 0, .int .u64 0, .int .u64 0, .int .u64 0, .int .u64 0, .int .u64 0, .int .u64 0, .int .u64 0], .int .i64 base, .int .i64 t] W fun e w' => e = .returned (.agg #[.int .u64 (dg 0 (P)), .int .u64 (dg 1 (P)), .int .u64 (dg 2 (P)), .int .u64 (dg 3 (P)), .int .u64 (dg 4 (P)), .int .u64 (dg 5 (P)), .int .u64 (dg 0 (N)), .int .u64 (dg 1 (N)), .int .u64 (dg 2 (N)), .int .u64 (dg 3 (N)), .int .u64 (dg 4 (N)), .int .u64 (dg 5 (N))]) ∧ Below W.heap.size W w') ∧
    (∀ W, Calls Try.prog 29 #[.agg #[.int .u64 (dg 0 (P)), .int .u64 (dg 1 (P)), .int .u64 (dg 2 (P)), .int .u64 (dg 3 (P)), .int .u64 (dg 4 (P)), .int .u64 (dg 5 (P)), .int .u64 (dg 0 (N)), .int .u64 (dg 1 (N)), .int .u64 (dg 2 (N)), .int .u64 (dg 3 (N)), .int .u64 (dg 4 (N)), .int .u64 (dg 5 (N))], .int .i64 warm] W fun e w' => e = .returned (.tuple #[.int .i64 (clampI (quoI (base * t) warm)), .bool (overI (quoI (base * t) warm))]) ∧ Below W.heap.size W w') := by
  have b := mul64_bd hb ht
  have pb := pos_neg (base * t)
  have pm : posP (base * t) ≤ 85070591730234615865843651857942052864 ∧ negP (base * t) ≤ 85070591730234615865843651857942052864 := by unfold posP negP; split <;> omega
  refine ⟨posP (base * t), negP (base * t), fun W => smul0_any base t hb ht W, fun W => ?_⟩
  have h := quo02_any (posP (base * t)) (negP (base * t)) warm (by unfold BIG; omega) (by unfold BIG; omega) hw hw0 W
  rw [show posP (base * t) - negP (base * t) = base * t by omega] at h
  exact h
set_option maxHeartbeats 2000000 in
theorem rrate_any (base warm : Int) (A : Option Addr) (m cp : Nat) (ta fa : Nat → Int) (t : Int) (w : World) (hA : RdD w A m ta fa) (hx : AllD ta fa) (h : RatesOk base warm m ta fa) (hb : In64 base) (t0 : 1 ≤ t) (t1 : t ≤ 1048576) :
    Calls Try.prog 15 #[.agg #[.int .i64 base, .int .i64 warm, .slice A m cp], .int .i64 t] w fun e w' => e = .returned (.int .i64 (rateI base warm m ta fa t)) ∧ Below w.heap.size w w' := by
  have HA := Lib.hid hA
  have HX := Lib.hid hx
  obtain ⟨⟨a1, a2, a3, a4⟩, _⟩ := h
  have HX0' := rate0_in (warm := warm) (t := t) hb
  obtain ⟨x0, hx0⟩ : ∃ x0, x0 = rate0 base warm t := ⟨_, rfl⟩
  rw [← hx0] at HX0'
  have HX0 := Lib.hid HX0'
  have HX1 := Lib.hid hx0.symm
  clear hA hx HX0'
  by_cases hw : t ≤ warm
  · obtain ⟨P, N, M1, Q1⟩ := quo_of_mul base t warm hb (by unfold In64; omega) (by unfold In64; omega) (by omega)
    rw [show clampI (quoI (base * t) warm) = x0 by rw [hx0]; unfold rate0; rw [if_pos hw]] at Q1
    have HM1 := Lib.hid M1
    have HQ1 := Lib.hid Q1
    have s0 : rateK x0 ta fa t 0 = x0 := rfl
    have HS0 := Lib.hid s0
    clear hx0 s0 M1 Q1
    go_enter Try.func15, Try.ntmps15
    go_wp2_with fail
    refine at_world fun W0 hW0 => ?_
    have bP : W0.heap[w.heap.size]? = some (.cells #[.int .i64 base, .int .i64 warm, .slice A m cp] 29 (0, 0)) := by subst hW0; exact heap_alloc_new w _
    have BW : Below w.heap.size w W0 := by subst hW0; exact (by repeat (first | (with_reducible exact Below.refl _ _) | (with_reducible assumption) | (with_reducible refine Below.drew ?_) | (with_reducible refine Below.alloc ?_ ?_ _) | (with_reducible refine Below.setCell ?_ ?_ _) | (with_reducible refine Below.trans ?_ (Below.mono hb ?_)) | (with_reducible refine Below.trans ?_ (Below.mono hb1 ?_)) | (with_reducible refine Below.trans ?_ (Below.mono hb2 ?_)) | (with_reducible refine Below.trans ?_ (Below.mono hb3 ?_)) | (with_reducible refine Below.trans ?_ (Below.mono hb4 ?_)) | (with_reducible refine Below.trans ?_ (Below.mono hb5 ?_)) | (with_reducible refine Below.trans ?_ (Below.mono hb6 ?_)) | (with_reducible refine Below.trans ?_ (Below.mono hb7 ?_)) | (with_reducible refine Below.trans ?_ (Below.mono hb8 ?_)) | (with_reducible refine Below.trans ?_ (Below.mono hb9 ?_)) | (focus (first | omega | (simp; done) | (simp; omega))) | exact hB))
    have p0 := cell_of_row W0 w.heap.size 0 _ _ _ bP
    have p1 := cell_of_row W0 w.heap.size 1 _ _ _ bP
    simp only [List.getElem?_toArray, List.getElem?_cons_zero, List.getElem?_cons_succ] at p0 p1
    have lP := lt_of_block bP
    have q0 := pack_cell p0 lP
    have q1 := pack_cell p1 lP
    have HBP := Lib.hid bP
    clear hW0 p0 p1 bP
    refine wp_region_pack (by kernel_rfl) (by kernel_rfl) ?_
    repeat (first | go_big_quiet_skip | (go_big_quiet_want; go_big_quiet_op; first | go_big_quiet_on | (apply Exists.intro; refine ⟨fun npk => ?_, ?_⟩; (focus (first | (go_at_call 28; exact pack_call (HM1.out _)) | (go_at_call 29; exact pack_call (HQ1.out _)))); go_big_quiet_on)))
    refine wpQuiet_nil ?_
    intro nq
    go_wp2_with fail
    refine at_world fun W1 hW1 => ?_
    have HI : RRt w W1 A m cp base warm := by subst hW1; exact ⟨BW.trans (Below.mono nq.ok BW.size), hp_call HBP.out nq.ok⟩
    clear hW1 HBP BW q0 q1 lP
    go_loopw [5, 6] (fun x i wr => ∃ k : Nat, k ≤ m ∧ i = .int .i64 k ∧ x = .int .i64 (rateK x0 ta fa t k) ∧ RRt w wr A m cp base warm) (fun _ i _ => m - (intOf i).toNat)
    case atStart => exact ⟨0, Nat.zero_le _, rfl, by rw [HS0.out], HI⟩
    case round =>
      clear HI
      obtain ⟨k, hk, rfl, rfl, hR⟩ := hrel
      have hB := hR.1
      have lP := lt_of_block hR.2
      have p0 := cell_of_row wr w.heap.size 2 _ _ _ hR.2
      simp only [List.getElem?_toArray, List.getElem?_cons_zero, List.getElem?_cons_succ] at p0
      have HR := Lib.hid hR
      clear hR
      by_cases hlt : k < m
      · obtain ⟨b, off, rfl, hb, hc⟩ := (HA.out.call hB) (by omega)
        obtain ⟨e1, e2⟩ := hc k hlt
        have ia : (0 : Int) ≤ (k : Int) := by omega
        have ib : (k : Int) < (m : Int) := by omega
        have FM := Lib.hid (fun W => rmul_any (rateK x0 ta fa t k) (fa k) (rateK_in HX0.out ta fa t k) (HX.out k).2 W)
        have zB := hB.size
        clear hc
        by_cases ht : ta k ≤ t
        · have HE := Lib.hid (show rateK x0 ta fa t (k + 1) = clampI (rnd (rateK x0 ta fa t k * fa k) 4294967296) by rw [rateK, if_pos ht])
          generalize rateK x0 ta fa t k = xk at *
          go_wp2_with (go_at_call 30; refine (FM.out _).mono ?_; rintro e wk ⟨rfl, hb1⟩)
          go_roundw
          case rel => exact ⟨k + 1, by omega, by simp, by rw [HE.out], HR.out.call (by repeat (first | (with_reducible exact Below.refl _ _) | (with_reducible assumption) | (with_reducible refine Below.drew ?_) | (with_reducible refine Below.alloc ?_ ?_ _) | (with_reducible refine Below.setCell ?_ ?_ _) | (with_reducible refine Below.trans ?_ (Below.mono hb ?_)) | (with_reducible refine Below.trans ?_ (Below.mono hb1 ?_)) | (with_reducible refine Below.trans ?_ (Below.mono hb2 ?_)) | (with_reducible refine Below.trans ?_ (Below.mono hb3 ?_)) | (with_reducible refine Below.trans ?_ (Below.mono hb4 ?_)) | (with_reducible refine Below.trans ?_ (Below.mono hb5 ?_)) | (with_reducible refine Below.trans ?_ (Below.mono hb6 ?_)) | (with_reducible refine Below.trans ?_ (Below.mono hb7 ?_)) | (with_reducible refine Below.trans ?_ (Below.mono hb8 ?_)) | (with_reducible refine Below.trans ?_ (Below.mono hb9 ?_)) | (focus (first | omega | (simp; done) | (simp; omega))) | exact hB))⟩
          case measure => simp [intOf]; omega
        · have HE := Lib.hid (show rateK x0 ta fa t (k + 1) = rateK x0 ta fa t k by rw [rateK, if_neg ht])
          clear FM
          generalize rateK x0 ta fa t k = xk at *
          go_wp2_with fail
          go_roundw
          case rel => exact ⟨k + 1, by omega, by simp, by rw [HE.out], HR.out.call (by repeat (first | (with_reducible exact Below.refl _ _) | (with_reducible assumption) | (with_reducible refine Below.drew ?_) | (with_reducible refine Below.alloc ?_ ?_ _) | (with_reducible refine Below.setCell ?_ ?_ _) | (with_reducible refine Below.trans ?_ (Below.mono hb ?_)) | (with_reducible refine Below.trans ?_ (Below.mono hb1 ?_)) | (with_reducible refine Below.trans ?_ (Below.mono hb2 ?_)) | (with_reducible refine Below.trans ?_ (Below.mono hb3 ?_)) | (with_reducible refine Below.trans ?_ (Below.mono hb4 ?_)) | (with_reducible refine Below.trans ?_ (Below.mono hb5 ?_)) | (with_reducible refine Below.trans ?_ (Below.mono hb6 ?_)) | (with_reducible refine Below.trans ?_ (Below.mono hb7 ?_)) | (with_reducible refine Below.trans ?_ (Below.mono hb8 ?_)) | (with_reducible refine Below.trans ?_ (Below.mono hb9 ?_)) | (focus (first | omega | (simp; done) | (simp; omega))) | exact hB))⟩
          case measure => simp [intOf]; omega
      · obtain rfl : k = m := by omega
        go_wp2_with fail
        go_ret
        exact ⟨by rw [rateI_eq, HX1.out]; rfl, hB⟩
  · have e0 : x0 = base := by rw [hx0]; unfold rate0; rw [if_neg hw]
    clear hx0
    have s0 : rateK x0 ta fa t 0 = base := e0
    have HS0 := Lib.hid s0
    clear s0 e0
    go_enter Try.func15, Try.ntmps15
    go_wp2_with fail
    refine at_world fun W1 hW1 => ?_
    have HI : RRt w W1 A m cp base warm := by subst hW1; exact ⟨(by repeat (first | (with_reducible exact Below.refl _ _) | (with_reducible assumption) | (with_reducible refine Below.drew ?_) | (with_reducible refine Below.alloc ?_ ?_ _) | (with_reducible refine Below.setCell ?_ ?_ _) | (with_reducible refine Below.trans ?_ (Below.mono hb ?_)) | (with_reducible refine Below.trans ?_ (Below.mono hb1 ?_)) | (with_reducible refine Below.trans ?_ (Below.mono hb2 ?_)) | (with_reducible refine Below.trans ?_ (Below.mono hb3 ?_)) | (with_reducible refine Below.trans ?_ (Below.mono hb4 ?_)) | (with_reducible refine Below.trans ?_ (Below.mono hb5 ?_)) | (with_reducible refine Below.trans ?_ (Below.mono hb6 ?_)) | (with_reducible refine Below.trans ?_ (Below.mono hb7 ?_)) | (with_reducible refine Below.trans ?_ (Below.mono hb8 ?_)) | (with_reducible refine Below.trans ?_ (Below.mono hb9 ?_)) | (focus (first | omega | (simp; done) | (simp; omega))) | exact hB)), heap_alloc_new w _⟩
    clear hW1
    go_loopw [5, 6] (fun x i wr => ∃ k : Nat, k ≤ m ∧ i = .int .i64 k ∧ x = .int .i64 (rateK x0 ta fa t k) ∧ RRt w wr A m cp base warm) (fun _ i _ => m - (intOf i).toNat)
    case atStart => exact ⟨0, Nat.zero_le _, rfl, by rw [HS0.out], HI⟩
    case round =>
      clear HI
      obtain ⟨k, hk, rfl, rfl, hR⟩ := hrel
      have hB := hR.1
      have lP := lt_of_block hR.2
      have p0 := cell_of_row wr w.heap.size 2 _ _ _ hR.2
      simp only [List.getElem?_toArray, List.getElem?_cons_zero, List.getElem?_cons_succ] at p0
      have HR := Lib.hid hR
      clear hR
      by_cases hlt : k < m
      · obtain ⟨b, off, rfl, hb, hc⟩ := (HA.out.call hB) (by omega)
        obtain ⟨e1, e2⟩ := hc k hlt
        have ia : (0 : Int) ≤ (k : Int) := by omega
        have ib : (k : Int) < (m : Int) := by omega
        have FM := Lib.hid (fun W => rmul_any (rateK x0 ta fa t k) (fa k) (rateK_in HX0.out ta fa t k) (HX.out k).2 W)
        have zB := hB.size
        clear hc
        by_cases ht : ta k ≤ t
        · have HE := Lib.hid (show rateK x0 ta fa t (k + 1) = clampI (rnd (rateK x0 ta fa t k * fa k) 4294967296) by rw [rateK, if_pos ht])
          generalize rateK x0 ta fa t k = xk at *
          go_wp2_with (go_at_call 30; refine (FM.out _).mono ?_; rintro e wk ⟨rfl, hb1⟩)
          go_roundw
          case rel => exact ⟨k + 1, by omega, by simp, by rw [HE.out], HR.out.call (by repeat (first | (with_reducible exact Below.refl _ _) | (with_reducible assumption) | (with_reducible refine Below.drew ?_) | (with_reducible refine Below.alloc ?_ ?_ _) | (with_reducible refine Below.setCell ?_ ?_ _) | (with_reducible refine Below.trans ?_ (Below.mono hb ?_)) | (with_reducible refine Below.trans ?_ (Below.mono hb1 ?_)) | (with_reducible refine Below.trans ?_ (Below.mono hb2 ?_)) | (with_reducible refine Below.trans ?_ (Below.mono hb3 ?_)) | (with_reducible refine Below.trans ?_ (Below.mono hb4 ?_)) | (with_reducible refine Below.trans ?_ (Below.mono hb5 ?_)) | (with_reducible refine Below.trans ?_ (Below.mono hb6 ?_)) | (with_reducible refine Below.trans ?_ (Below.mono hb7 ?_)) | (with_reducible refine Below.trans ?_ (Below.mono hb8 ?_)) | (with_reducible refine Below.trans ?_ (Below.mono hb9 ?_)) | (focus (first | omega | (simp; done) | (simp; omega))) | exact hB))⟩
          case measure => simp [intOf]; omega
        · have HE := Lib.hid (show rateK x0 ta fa t (k + 1) = rateK x0 ta fa t k by rw [rateK, if_neg ht])
          clear FM
          generalize rateK x0 ta fa t k = xk at *
          go_wp2_with fail
          go_roundw
          case rel => exact ⟨k + 1, by omega, by simp, by rw [HE.out], HR.out.call (by repeat (first | (with_reducible exact Below.refl _ _) | (with_reducible assumption) | (with_reducible refine Below.drew ?_) | (with_reducible refine Below.alloc ?_ ?_ _) | (with_reducible refine Below.setCell ?_ ?_ _) | (with_reducible refine Below.trans ?_ (Below.mono hb ?_)) | (with_reducible refine Below.trans ?_ (Below.mono hb1 ?_)) | (with_reducible refine Below.trans ?_ (Below.mono hb2 ?_)) | (with_reducible refine Below.trans ?_ (Below.mono hb3 ?_)) | (with_reducible refine Below.trans ?_ (Below.mono hb4 ?_)) | (with_reducible refine Below.trans ?_ (Below.mono hb5 ?_)) | (with_reducible refine Below.trans ?_ (Below.mono hb6 ?_)) | (with_reducible refine Below.trans ?_ (Below.mono hb7 ?_)) | (with_reducible refine Below.trans ?_ (Below.mono hb8 ?_)) | (with_reducible refine Below.trans ?_ (Below.mono hb9 ?_)) | (focus (first | omega | (simp; done) | (simp; omega))) | exact hB))⟩
          case measure => simp [intOf]; omega
      · obtain rfl : k = m := by omega
        go_wp2_with fail
        go_ret
        exact ⟨by rw [rateI_eq, HX1.out]; rfl, hB⟩
theorem lpace_any (l m f g : Int) (w : World) :
    Calls Try.prog 17 #[.agg #[.int .i64 l, .int .i64 m, .int .i64 f, .int .i64 g]] w fun e w' => e = .returned (.agg #[.int .i64 l, .int .i64 m, .int .i64 f, .int .i64 g]) ∧ Below w.heap.size w w' := by
  go_enter Try.func17, Try.ntmps17
  go_wp2
  first
    | (go_ret; exact ⟨rfl, (by repeat (first | (with_reducible exact Below.refl _ _) | (with_reducible assumption) | (with_reducible refine Below.drew ?_) | (with_reducible refine Below.alloc ?_ ?_ _) | (with_reducible refine Below.setCell ?_ ?_ _) | (with_reducible refine Below.trans ?_ (Below.mono hb ?_)) | (with_reducible refine Below.trans ?_ (Below.mono hb1 ?_)) | (with_reducible refine Below.trans ?_ (Below.mono hb2 ?_)) | (with_reducible refine Below.trans ?_ (Below.mono hb3 ?_)) | (with_reducible refine Below.trans ?_ (Below.mono hb4 ?_)) | (with_reducible refine Below.trans ?_ (Below.mono hb5 ?_)) | (with_reducible refine Below.trans ?_ (Below.mono hb6 ?_)) | (with_reducible refine Below.trans ?_ (Below.mono hb7 ?_)) | (with_reducible refine Below.trans ?_ (Below.mono hb8 ?_)) | (with_reducible refine Below.trans ?_ (Below.mono hb9 ?_)) | (focus (first | omega | (simp; done) | (simp; omega))) | exact hB))⟩)
    | exact bodyPost_ret (v := .agg #[.int .i64 l, .int .i64 m, .int .i64 f, .int .i64 g]) (by simp [*, results, Try.results17, go_sem]) rfl ⟨rfl, (by repeat (first | (with_reducible exact Below.refl _ _) | (with_reducible assumption) | (with_reducible refine Below.drew ?_) | (with_reducible refine Below.alloc ?_ ?_ _) | (with_reducible refine Below.setCell ?_ ?_ _) | (with_reducible refine Below.trans ?_ (Below.mono hb ?_)) | (with_reducible refine Below.trans ?_ (Below.mono hb1 ?_)) | (with_reducible refine Below.trans ?_ (Below.mono hb2 ?_)) | (with_reducible refine Below.trans ?_ (Below.mono hb3 ?_)) | (with_reducible refine Below.trans ?_ (Below.mono hb4 ?_)) | (with_reducible refine Below.trans ?_ (Below.mono hb5 ?_)) | (with_reducible refine Below.trans ?_ (Below.mono hb6 ?_)) | (with_reducible refine Below.trans ?_ (Below.mono hb7 ?_)) | (with_reducible refine Below.trans ?_ (Below.mono hb8 ?_)) | (with_reducible refine Below.trans ?_ (Below.mono hb9 ?_)) | (focus (first | omega | (simp; done) | (simp; omega))) | exact hB))⟩
end Go.Proofs.Ytfpeekdjdapcdaa
