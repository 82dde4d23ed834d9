import Derived.Test.YtfpeekdjdapcdaaC5
/- The document's rates. -/
namespace Go.Proofs.Ytfpeekdjdapcdaa
open Go.RowKit
attribute [local go_sem ↓] Go.wp_at_zero Go.wp_at_succ

theorem rright_head (base warm : Int) (A : Option Addr) (m cp : Nat) (w : World) (h : ¬ (0 ≤ base ∧ 0 ≤ warm ∧ warm ≤ 1048576 ∧ m ≤ 16)) :
    Calls Try.prog 13 #[.agg #[.int .i64 base, .int .i64 warm, .slice A m cp]] w fun e w' => e = .returned (.bool false) ∧ Below w.heap.size w w' := by
  by_cases h1 : base < 0
  · clear h
    go_enter Try.func13, Try.ntmps13
    go_wp2
    go_ret
    exact ⟨rfl, (by repeat (first | (with_reducible exact Below.refl _ _) | (with_reducible assumption) | (with_reducible refine Below.drew ?_) | (with_reducible refine Below.alloc ?_ ?_ _) | (with_reducible refine Below.setCell ?_ ?_ _) | (with_reducible refine Below.trans ?_ (Below.mono hb ?_)) | (with_reducible refine Below.trans ?_ (Below.mono hb1 ?_)) | (with_reducible refine Below.trans ?_ (Below.mono hb2 ?_)) | (with_reducible refine Below.trans ?_ (Below.mono hb3 ?_)) | (with_reducible refine Below.trans ?_ (Below.mono hb4 ?_)) | (with_reducible refine Below.trans ?_ (Below.mono hb5 ?_)) | (with_reducible refine Below.trans ?_ (Below.mono hb6 ?_)) | (with_reducible refine Below.trans ?_ (Below.mono hb7 ?_)) | (with_reducible refine Below.trans ?_ (Below.mono hb8 ?_)) | (with_reducible refine Below.trans ?_ (Below.mono hb9 ?_)) | (focus (first | omega | (simp; done) | (simp; omega))) | exact hB))⟩
  · by_cases h2 : warm < 0
    · clear h
      go_enter Try.func13, Try.ntmps13
      go_wp2
      go_ret
      exact ⟨rfl, (by repeat (first | (with_reducible exact Below.refl _ _) | (with_reducible assumption) | (with_reducible refine Below.drew ?_) | (with_reducible refine Below.alloc ?_ ?_ _) | (with_reducible refine Below.setCell ?_ ?_ _) | (with_reducible refine Below.trans ?_ (Below.mono hb ?_)) | (with_reducible refine Below.trans ?_ (Below.mono hb1 ?_)) | (with_reducible refine Below.trans ?_ (Below.mono hb2 ?_)) | (with_reducible refine Below.trans ?_ (Below.mono hb3 ?_)) | (with_reducible refine Below.trans ?_ (Below.mono hb4 ?_)) | (with_reducible refine Below.trans ?_ (Below.mono hb5 ?_)) | (with_reducible refine Below.trans ?_ (Below.mono hb6 ?_)) | (with_reducible refine Below.trans ?_ (Below.mono hb7 ?_)) | (with_reducible refine Below.trans ?_ (Below.mono hb8 ?_)) | (with_reducible refine Below.trans ?_ (Below.mono hb9 ?_)) | (focus (first | omega | (simp; done) | (simp; omega))) | exact hB))⟩
    · by_cases h3 : 1048576 < warm
      · clear h
        go_enter Try.func13, Try.ntmps13
        go_wp2
        go_ret
        exact ⟨rfl, (by repeat (first | (with_reducible exact Below.refl _ _) | (with_reducible assumption) | (with_reducible refine Below.drew ?_) | (with_reducible refine Below.alloc ?_ ?_ _) | (with_reducible refine Below.setCell ?_ ?_ _) | (with_reducible refine Below.trans ?_ (Below.mono hb ?_)) | (with_reducible refine Below.trans ?_ (Below.mono hb1 ?_)) | (with_reducible refine Below.trans ?_ (Below.mono hb2 ?_)) | (with_reducible refine Below.trans ?_ (Below.mono hb3 ?_)) | (with_reducible refine Below.trans ?_ (Below.mono hb4 ?_)) | (with_reducible refine Below.trans ?_ (Below.mono hb5 ?_)) | (with_reducible refine Below.trans ?_ (Below.mono hb6 ?_)) | (with_reducible refine Below.trans ?_ (Below.mono hb7 ?_)) | (with_reducible refine Below.trans ?_ (Below.mono hb8 ?_)) | (with_reducible refine Below.trans ?_ (Below.mono hb9 ?_)) | (focus (first | omega | (simp; done) | (simp; omega))) | exact hB))⟩
      · have h4 : 16 < m := by omega
        clear h
        go_enter Try.func13, Try.ntmps13
        go_wp2
        go_ret
        exact ⟨rfl, (by repeat (first | (with_reducible exact Below.refl _ _) | (with_reducible assumption) | (with_reducible refine Below.drew ?_) | (with_reducible refine Below.alloc ?_ ?_ _) | (with_reducible refine Below.setCell ?_ ?_ _) | (with_reducible refine Below.trans ?_ (Below.mono hb ?_)) | (with_reducible refine Below.trans ?_ (Below.mono hb1 ?_)) | (with_reducible refine Below.trans ?_ (Below.mono hb2 ?_)) | (with_reducible refine Below.trans ?_ (Below.mono hb3 ?_)) | (with_reducible refine Below.trans ?_ (Below.mono hb4 ?_)) | (with_reducible refine Below.trans ?_ (Below.mono hb5 ?_)) | (with_reducible refine Below.trans ?_ (Below.mono hb6 ?_)) | (with_reducible refine Below.trans ?_ (Below.mono hb7 ?_)) | (with_reducible refine Below.trans ?_ (Below.mono hb8 ?_)) | (with_reducible refine Below.trans ?_ (Below.mono hb9 ?_)) | (focus (first | omega | (simp; done) | (simp; omega))) | exact hB))⟩
/-- What the document asks of a drop. -/
theorem drop_one {ta fa : Nat → Int} {k : Nat} (hD : DropsOk ta fa k) : DropOk ta fa k ↔ (¬ ta k < 1 ∧ ¬ 1048576 < ta k ∧ ¬ fa k < 0 ∧ ¬ 4294967296 < fa k) ∧ (0 < k → ta (k - 1) < ta k) := by
  cases k with
  | zero =>
    unfold DropOk
    show ((0 : Int) < _ ∧ _) ↔ _
    omega
  | succ i =>
    have h := hD i (by omega)
    have := DropsOk.pos (k := i) (fun j hj => hD j (by omega))
    unfold DropOk at *
    show (ta i < _ ∧ _) ↔ _
    simp only [Nat.add_sub_cancel]
    omega
theorem bel_drewN {B : Nat} {w w' : World} (h : Below B w w') (n : Nat) : Below B w (w'.drewN n) := ⟨h.os, h.tape, h.output, h.size, h.block⟩
/-- What stands behind k drops. -/
def RRt (w wr : World) (A : Option Addr) (m cp : Nat) (base warm : Int) : Prop := Below w.heap.size w wr ∧ wr.heap[w.heap.size]? = some (.cells #[.int .i64 base, .int .i64 warm, .slice A m cp] 29 (0, 0))
theorem RRt.call {w wr w' : World} {A : Option Addr} {m cp : Nat} {base warm : Int} (h : RRt w wr A m cp base warm) (hb : Below wr.heap.size wr w') : RRt w w' A m cp base warm := ⟨h.1.trans (hb.mono h.1.size), hp_call h.2 hb⟩
set_option maxHeartbeats 4000000 in
theorem rright_ok (base warm : Int) (A : Option Addr) (m cp : Nat) (ta fa : Nat → Int) (w : World) (hA : RdD w A m ta fa) (hx : AllD ta fa) (h : RatesOk base warm m ta fa) :
    Calls Try.prog 13 #[.agg #[.int .i64 base, .int .i64 warm, .slice A m cp]] w fun e w' => e = .returned (.bool true) ∧ Below w.heap.size w w' := by
  obtain ⟨⟨a1, a2, a3, a4⟩, hok⟩ := h
  have HA := Lib.hid hA
  have HX := Lib.hid hx
  have HOK := Lib.hid hok
  clear hA hx hok
  go_enter Try.func13, Try.ntmps13
  go_wp2_with fail
  refine at_world fun W1 hW1 => ?_
  have HI : RRt w W1 A m cp base warm := by subst hW1; exact ⟨(by repeat (first | (with_reducible exact Below.refl _ _) | (with_reducible assumption) | (with_reducible refine Below.drew ?_) | (with_reducible refine Below.alloc ?_ ?_ _) | (with_reducible refine Below.setCell ?_ ?_ _) | (with_reducible refine Below.trans ?_ (Below.mono hb ?_)) | (with_reducible refine Below.trans ?_ (Below.mono hb1 ?_)) | (with_reducible refine Below.trans ?_ (Below.mono hb2 ?_)) | (with_reducible refine Below.trans ?_ (Below.mono hb3 ?_)) | (with_reducible refine Below.trans ?_ (Below.mono hb4 ?_)) | (with_reducible refine Below.trans ?_ (Below.mono hb5 ?_)) | (with_reducible refine Below.trans ?_ (Below.mono hb6 ?_)) | (with_reducible refine Below.trans ?_ (Below.mono hb7 ?_)) | (with_reducible refine Below.trans ?_ (Below.mono hb8 ?_)) | (with_reducible refine Below.trans ?_ (Below.mono hb9 ?_)) | (focus (first | omega | (simp; done) | (simp; omega))) | exact hB)), heap_alloc_new w _⟩
  clear hW1
  go_loopw [3] (fun i wr => ∃ k : Nat, k ≤ m ∧ i = .int .i64 k ∧ DropsOk ta fa k ∧ RRt w wr A m cp base warm) (fun i _ => m - (intOf i).toNat)
  case atStart => exact ⟨0, Nat.zero_le _, rfl, fun j hj => absurd hj (by omega), HI⟩
  case round =>
    clear HI
    obtain ⟨k, hk, rfl, hD, hR⟩ := hrel
    have hB := hR.1
    have lP := lt_of_block hR.2
    have p0 := cell_of_row wr w.heap.size 2 _ _ _ hR.2
    simp only [List.getElem?_toArray, List.getElem?_cons_zero, List.getElem?_cons_succ] at p0
    by_cases hlt : k < m
    · obtain ⟨b, off, rfl, hb, hc⟩ := (HA.out.call hB) (by omega)
      obtain ⟨e1, e2⟩ := hc k hlt
      have ia : (0 : Int) ≤ (k : Int) := by omega
      have ib : (k : Int) < (m : Int) := by omega
      have kx := HX.out k
      have HD := Lib.hid hD
      have HDO := Lib.hid (drop_one hD)
      have HR := Lib.hid hR
      have HC := Lib.hid hc
      clear hc hD hR
      by_cases h1 : ta k < 1
      · have HN := Lib.hid (fun h : DropsOk ta fa m => (HDO.out.1 (h k hlt)).1.1 h1)
        exact absurd HOK.out HN.out
      · by_cases h2 : 1048576 < ta k
        · have HN := Lib.hid (fun h : DropsOk ta fa m => (HDO.out.1 (h k hlt)).1.2.1 h2)
          exact absurd HOK.out HN.out
        · by_cases h3 : fa k < 0
          · have HN := Lib.hid (fun h : DropsOk ta fa m => (HDO.out.1 (h k hlt)).1.2.2.1 h3)
            exact absurd HOK.out HN.out
          · by_cases h4 : 4294967296 < fa k
            · have HN := Lib.hid (fun h : DropsOk ta fa m => (HDO.out.1 (h k hlt)).1.2.2.2 h4)
              exact absurd HOK.out HN.out
            · by_cases h0 : k = 0
              · subst h0
                simp only [Nat.zero_mul, Nat.add_zero] at e1 e2
                have HN := Lib.hid (HD.out.next (HDO.out.2 ⟨⟨h1, h2, h3, h4⟩, fun h => absurd h (by omega)⟩))
                have td : decide ((0 : Int) < 0) = false := rfl
                go_wp2_with fail
                go_quiet (fail)
                go_wp2_with fail
                go_roundw
                case rel => exact ⟨1, by omega, rfl, HN.out, HR.out.call (bel_drewN ((Below.refl _ _).alloc (Nat.le_refl _) _) _)⟩
                case measure => simp [intOf]; omega
              · obtain ⟨e3, e4⟩ := HC.out (k - 1) (by omega)
                have hk1 : (0 : Int) < (k : Int) := by omega
                have hk2 : ((k : Int) - 1).toNat = k - 1 := by omega
                have hk3 : IntKind.i64.wrap ((k : Int) - 1) = (k : Int) - 1 := IntWalk.i64_in _ (by omega)
                have hk4 : (0 : Int) ≤ (k : Int) - 1 := by omega
                have hk5 : (k : Int) - 1 < m := by omega
                by_cases h5 : ta (k - 1) < ta k
                · have HN := Lib.hid (HD.out.next (HDO.out.2 ⟨⟨h1, h2, h3, h4⟩, fun _ => h5⟩))
                  have td : decide (0 < k) = true := decide_eq_true (by omega)
                  have hkn : 0 < k := by omega
                  have tf : decide (ta k ≤ ta (k - 1)) = false := by simp; omega
                  go_wp2_with fail
                  go_quiet (fail)
                  go_wp2_with fail
                  go_roundw
                  case rel => exact ⟨k + 1, by omega, by simp, HN.out, HR.out.call (bel_drewN ((Below.refl _ _).alloc (Nat.le_refl _) _) _)⟩
                  case measure => simp [intOf]; omega
                · have HN := Lib.hid (fun h : DropsOk ta fa m => h5 ((HDO.out.1 (h k hlt)).2 (by omega)))
                  exact absurd HOK.out HN.out
    · obtain rfl : k = m := by omega
      have HD := Lib.hid hD
      clear hD
      go_wp2_with fail
      go_ret
      exact ⟨rfl, hB⟩
set_option maxHeartbeats 4000000 in
theorem rright_drops (base warm : Int) (A : Option Addr) (m cp : Nat) (ta fa : Nat → Int) (w : World) (hA : RdD w A m ta fa) (hx : AllD ta fa) (h : 0 ≤ base ∧ 0 ≤ warm ∧ warm ≤ 1048576 ∧ m ≤ 16) (hno : ¬ DropsOk ta fa m) :
    Calls Try.prog 13 #[.agg #[.int .i64 base, .int .i64 warm, .slice A m cp]] w fun e w' => e = .returned (.bool false) ∧ Below w.heap.size w w' := by
  obtain ⟨a1, a2, a3, a4⟩ := h
  have HA := Lib.hid hA
  have HX := Lib.hid hx
  have HOK := Lib.hid hno
  clear hA hx hno
  go_enter Try.func13, Try.ntmps13
  go_wp2_with fail
  refine at_world fun W1 hW1 => ?_
  have HI : RRt w W1 A m cp base warm := by subst hW1; exact ⟨(by repeat (first | (with_reducible exact Below.refl _ _) | (with_reducible assumption) | (with_reducible refine Below.drew ?_) | (with_reducible refine Below.alloc ?_ ?_ _) | (with_reducible refine Below.setCell ?_ ?_ _) | (with_reducible refine Below.trans ?_ (Below.mono hb ?_)) | (with_reducible refine Below.trans ?_ (Below.mono hb1 ?_)) | (with_reducible refine Below.trans ?_ (Below.mono hb2 ?_)) | (with_reducible refine Below.trans ?_ (Below.mono hb3 ?_)) | (with_reducible refine Below.trans ?_ (Below.mono hb4 ?_)) | (with_reducible refine Below.trans ?_ (Below.mono hb5 ?_)) | (with_reducible refine Below.trans ?_ (Below.mono hb6 ?_)) | (with_reducible refine Below.trans ?_ (Below.mono hb7 ?_)) | (with_reducible refine Below.trans ?_ (Below.mono hb8 ?_)) | (with_reducible refine Below.trans ?_ (Below.mono hb9 ?_)) | (focus (first | omega | (simp; done) | (simp; omega))) | exact hB)), heap_alloc_new w _⟩
  clear hW1
  go_loopw [3] (fun i wr => ∃ k : Nat, k ≤ m ∧ i = .int .i64 k ∧ DropsOk ta fa k ∧ RRt w wr A m cp base warm) (fun i _ => m - (intOf i).toNat)
  case atStart => exact ⟨0, Nat.zero_le _, rfl, fun j hj => absurd hj (by omega), HI⟩
  case round =>
    clear HI
    obtain ⟨k, hk, rfl, hD, hR⟩ := hrel
    have hB := hR.1
    have lP := lt_of_block hR.2
    have p0 := cell_of_row wr w.heap.size 2 _ _ _ hR.2
    simp only [List.getElem?_toArray, List.getElem?_cons_zero, List.getElem?_cons_succ] at p0
    by_cases hlt : k < m
    · obtain ⟨b, off, rfl, hb, hc⟩ := (HA.out.call hB) (by omega)
      obtain ⟨e1, e2⟩ := hc k hlt
      have ia : (0 : Int) ≤ (k : Int) := by omega
      have ib : (k : Int) < (m : Int) := by omega
      have kx := HX.out k
      have HD := Lib.hid hD
      have HDO := Lib.hid (drop_one hD)
      have HR := Lib.hid hR
      have HC := Lib.hid hc
      clear hc hD hR
      by_cases h1 : ta k < 1
      · have HN := Lib.hid (fun h : DropsOk ta fa m => (HDO.out.1 (h k hlt)).1.1 h1)
        clear HD HDO HC
        go_wp2_with fail
        go_ret
        exact ⟨rfl, (by repeat (first | (with_reducible exact Below.refl _ _) | (with_reducible assumption) | (with_reducible refine Below.drew ?_) | (with_reducible refine Below.alloc ?_ ?_ _) | (with_reducible refine Below.setCell ?_ ?_ _) | (with_reducible refine Below.trans ?_ (Below.mono hb ?_)) | (with_reducible refine Below.trans ?_ (Below.mono hb1 ?_)) | (with_reducible refine Below.trans ?_ (Below.mono hb2 ?_)) | (with_reducible refine Below.trans ?_ (Below.mono hb3 ?_)) | (with_reducible refine Below.trans ?_ (Below.mono hb4 ?_)) | (with_reducible refine Below.trans ?_ (Below.mono hb5 ?_)) | (with_reducible refine Below.trans ?_ (Below.mono hb6 ?_)) | (with_reducible refine Below.trans ?_ (Below.mono hb7 ?_)) | (with_reducible refine Below.trans ?_ (Below.mono hb8 ?_)) | (with_reducible refine Below.trans ?_ (Below.mono hb9 ?_)) | (focus (first | omega | (simp; done) | (simp; omega))) | exact hB))⟩
      · by_cases h2 : 1048576 < ta k
        · have HN := Lib.hid (fun h : DropsOk ta fa m => (HDO.out.1 (h k hlt)).1.2.1 h2)
          clear HD HDO HC
          go_wp2_with fail
          go_ret
          exact ⟨rfl, (by repeat (first | (with_reducible exact Below.refl _ _) | (with_reducible assumption) | (with_reducible refine Below.drew ?_) | (with_reducible refine Below.alloc ?_ ?_ _) | (with_reducible refine Below.setCell ?_ ?_ _) | (with_reducible refine Below.trans ?_ (Below.mono hb ?_)) | (with_reducible refine Below.trans ?_ (Below.mono hb1 ?_)) | (with_reducible refine Below.trans ?_ (Below.mono hb2 ?_)) | (with_reducible refine Below.trans ?_ (Below.mono hb3 ?_)) | (with_reducible refine Below.trans ?_ (Below.mono hb4 ?_)) | (with_reducible refine Below.trans ?_ (Below.mono hb5 ?_)) | (with_reducible refine Below.trans ?_ (Below.mono hb6 ?_)) | (with_reducible refine Below.trans ?_ (Below.mono hb7 ?_)) | (with_reducible refine Below.trans ?_ (Below.mono hb8 ?_)) | (with_reducible refine Below.trans ?_ (Below.mono hb9 ?_)) | (focus (first | omega | (simp; done) | (simp; omega))) | exact hB))⟩
        · by_cases h3 : fa k < 0
          · have HN := Lib.hid (fun h : DropsOk ta fa m => (HDO.out.1 (h k hlt)).1.2.2.1 h3)
            clear HD HDO HC
            go_wp2_with fail
            go_ret
            exact ⟨rfl, (by repeat (first | (with_reducible exact Below.refl _ _) | (with_reducible assumption) | (with_reducible refine Below.drew ?_) | (with_reducible refine Below.alloc ?_ ?_ _) | (with_reducible refine Below.setCell ?_ ?_ _) | (with_reducible refine Below.trans ?_ (Below.mono hb ?_)) | (with_reducible refine Below.trans ?_ (Below.mono hb1 ?_)) | (with_reducible refine Below.trans ?_ (Below.mono hb2 ?_)) | (with_reducible refine Below.trans ?_ (Below.mono hb3 ?_)) | (with_reducible refine Below.trans ?_ (Below.mono hb4 ?_)) | (with_reducible refine Below.trans ?_ (Below.mono hb5 ?_)) | (with_reducible refine Below.trans ?_ (Below.mono hb6 ?_)) | (with_reducible refine Below.trans ?_ (Below.mono hb7 ?_)) | (with_reducible refine Below.trans ?_ (Below.mono hb8 ?_)) | (with_reducible refine Below.trans ?_ (Below.mono hb9 ?_)) | (focus (first | omega | (simp; done) | (simp; omega))) | exact hB))⟩
          · by_cases h4 : 4294967296 < fa k
            · have HN := Lib.hid (fun h : DropsOk ta fa m => (HDO.out.1 (h k hlt)).1.2.2.2 h4)
              clear HD HDO HC
              go_wp2_with fail
              go_ret
              exact ⟨rfl, (by repeat (first | (with_reducible exact Below.refl _ _) | (with_reducible assumption) | (with_reducible refine Below.drew ?_) | (with_reducible refine Below.alloc ?_ ?_ _) | (with_reducible refine Below.setCell ?_ ?_ _) | (with_reducible refine Below.trans ?_ (Below.mono hb ?_)) | (with_reducible refine Below.trans ?_ (Below.mono hb1 ?_)) | (with_reducible refine Below.trans ?_ (Below.mono hb2 ?_)) | (with_reducible refine Below.trans ?_ (Below.mono hb3 ?_)) | (with_reducible refine Below.trans ?_ (Below.mono hb4 ?_)) | (with_reducible refine Below.trans ?_ (Below.mono hb5 ?_)) | (with_reducible refine Below.trans ?_ (Below.mono hb6 ?_)) | (with_reducible refine Below.trans ?_ (Below.mono hb7 ?_)) | (with_reducible refine Below.trans ?_ (Below.mono hb8 ?_)) | (with_reducible refine Below.trans ?_ (Below.mono hb9 ?_)) | (focus (first | omega | (simp; done) | (simp; omega))) | exact hB))⟩
            · by_cases h0 : k = 0
              · subst h0
                simp only [Nat.zero_mul, Nat.add_zero] at e1 e2
                have HN := Lib.hid (HD.out.next (HDO.out.2 ⟨⟨h1, h2, h3, h4⟩, fun h => absurd h (by omega)⟩))
                have td : decide ((0 : Int) < 0) = false := rfl
                go_wp2_with fail
                go_quiet (fail)
                go_wp2_with fail
                go_roundw
                case rel => exact ⟨1, by omega, rfl, HN.out, HR.out.call (bel_drewN ((Below.refl _ _).alloc (Nat.le_refl _) _) _)⟩
                case measure => simp [intOf]; omega
              · obtain ⟨e3, e4⟩ := HC.out (k - 1) (by omega)
                have hk1 : (0 : Int) < (k : Int) := by omega
                have hk2 : ((k : Int) - 1).toNat = k - 1 := by omega
                have hk3 : IntKind.i64.wrap ((k : Int) - 1) = (k : Int) - 1 := IntWalk.i64_in _ (by omega)
                have hk4 : (0 : Int) ≤ (k : Int) - 1 := by omega
                have hk5 : (k : Int) - 1 < m := by omega
                by_cases h5 : ta (k - 1) < ta k
                · have HN := Lib.hid (HD.out.next (HDO.out.2 ⟨⟨h1, h2, h3, h4⟩, fun _ => h5⟩))
                  have td : decide (0 < k) = true := decide_eq_true (by omega)
                  have hkn : 0 < k := by omega
                  have tf : decide (ta k ≤ ta (k - 1)) = false := by simp; omega
                  go_wp2_with fail
                  go_quiet (fail)
                  go_wp2_with fail
                  go_roundw
                  case rel => exact ⟨k + 1, by omega, by simp, HN.out, HR.out.call (bel_drewN ((Below.refl _ _).alloc (Nat.le_refl _) _) _)⟩
                  case measure => simp [intOf]; omega
                · have HN := Lib.hid (fun h : DropsOk ta fa m => h5 ((HDO.out.1 (h k hlt)).2 (by omega)))
                  have td : decide (0 < k) = true := decide_eq_true (by omega)
                  have hkn : 0 < k := by omega
                  have tf : decide (ta k ≤ ta (k - 1)) = true := by simp; omega
                  go_wp2_with fail
                  go_quiet (fail)
                  go_wp2_with fail
                  go_ret
                  exact ⟨rfl, hB.trans (Below.mono (bel_drewN ((Below.refl _ _).alloc (Nat.le_refl _) _) _) hB.size)⟩
    · obtain rfl : k = m := by omega
      have HD := Lib.hid hD
      clear hD
      exact absurd HD.out HOK.out
theorem rright_no (base warm : Int) (A : Option Addr) (m cp : Nat) (ta fa : Nat → Int) (w : World) (hA : RdD w A m ta fa) (hx : AllD ta fa) (h : ¬ RatesOk base warm m ta fa) :
    Calls Try.prog 13 #[.agg #[.int .i64 base, .int .i64 warm, .slice A m cp]] w fun e w' => e = .returned (.bool false) ∧ Below w.heap.size w w' := by
  by_cases h1 : 0 ≤ base ∧ 0 ≤ warm ∧ warm ≤ 1048576 ∧ m ≤ 16
  · exact rright_drops base warm A m cp ta fa w hA hx h1 fun h2 => h ⟨h1, h2⟩
  · exact rright_head base warm A m cp w h1
end Go.Proofs.Ytfpeekdjdapcdaa
