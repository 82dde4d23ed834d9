import Derived.Test.YtjhepjmggenadaaU4
/- The law FixUnits, walked. -/
namespace Go.Proofs.Ytjhepjmggenadaa
open Go.RowKit
attribute [local go_sem ↓] Go.wp_at_zero Go.wp_at_succ

/-- Ops, one after another. -/
def RdO (w : World) (A : Option Addr) (m : Nat) (ks as_ bs : Nat → Int) : Prop :=
  0 < m → ∃ b off, A = some ⟨b, off, none⟩ ∧ b < w.heap.size ∧ ∀ j, j < m → w.cell? ⟨b, off + j * 3, none⟩ = some (.int .i64 (ks j)) ∧ w.cell? ⟨b, off + j * 3 + 1, none⟩ = some (.int .i64 (as_ j)) ∧ w.cell? ⟨b, off + j * 3 + 2, none⟩ = some (.int .i64 (bs j))
theorem RdO.call {w w' : World} {A : Option Addr} {m : Nat} {ks as_ bs : Nat → Int} (h : RdO w A m ks as_ bs) (hb : Below w.heap.size w w') : RdO w' A m ks as_ bs := fun hm => by
  obtain ⟨b, off, e, hlt, hc⟩ := h hm
  exact ⟨b, off, e, by have := hb.size; omega, fun j hj => ⟨(hb.cell (p := ⟨b, off + j * 3, none⟩) hlt).trans (hc j hj).1, (hb.cell (p := ⟨b, off + j * 3 + 1, none⟩) hlt).trans (hc j hj).2.1, (hb.cell (p := ⟨b, off + j * 3 + 2, none⟩) hlt).trans (hc j hj).2.2⟩⟩
def All3 (ks as_ bs : Nat → Int) : Prop := ∀ j, In64 (ks j) ∧ In64 (as_ j) ∧ In64 (bs j)
set_option maxHeartbeats 8000000 in
set_option maxRecDepth 100000 in
theorem funits_main (A : Option Addr) (n cp : Nat) (ks as_ bs : Nat → Int) (w : World) (hn : n ≤ 200) (hA : RdO w A n ks as_ bs) (h3 : All3 ks as_ bs) :
    Calls Try.prog 16 #[.slice A n cp] w fun e w' => e = .returned (.bool true) ∧ Below w.heap.size w w' := by
  have d1 : decide ((200 : Int) < (n : Int)) = false := decide_eq_false (by omega)
  have AW := Lib.hid (fun W => awake2_any W)
  have HA := Lib.hid hA
  clear hA
  go_enter Try.func16, Try.ntmps16
  go_upto_region 8 with (go_at_call 17; refine (AW.out _).mono ?_; rintro e w1 ⟨rfl, hb1⟩; obtain ⟨hc1, hf1, hz1⟩ := bcell hb1; (try simp at hz1); (try have : w.heap.size < w1.heap.size := by omega); (try have : w.heap.size + 1 < w1.heap.size := by omega); (try have : w.heap.size + 1 + 1 < w1.heap.size := by omega); (try have : w.heap.size + 1 + 1 + 1 < w1.heap.size := by omega); (try have : g < w1.heap.size := by omega); (try have : ga < w1.heap.size := by omega); (try have : gb < w1.heap.size := by omega); (try have : gc < w1.heap.size := by omega); have hB : Below w.heap.size w w1 := (by repeat (first | (with_reducible exact Below.refl _ _) | (with_reducible assumption) | (with_reducible refine Below.drew ?_) | (with_reducible refine Below.alloc ?_ ?_ _) | (with_reducible refine Below.setCell ?_ ?_ _) | (with_reducible refine Below.trans ?_ (Below.mono hb ?_)) | (with_reducible refine Below.trans ?_ (Below.mono hb1 ?_)) | (with_reducible refine Below.trans ?_ (Below.mono hb2 ?_)) | (with_reducible refine Below.trans ?_ (Below.mono hb3 ?_)) | (with_reducible refine Below.trans ?_ (Below.mono hb4 ?_)) | (with_reducible refine Below.trans ?_ (Below.mono hb5 ?_)) | (with_reducible refine Below.trans ?_ (Below.mono hb6 ?_)) | (with_reducible refine Below.trans ?_ (Below.mono hb7 ?_)) | (with_reducible refine Below.trans ?_ (Below.mono hb8 ?_)) | (with_reducible refine Below.trans ?_ (Below.mono hb9 ?_)) | (focus (first | omega | (simp; done) | (simp; omega))) | exact hB)))
  refine at_world fun Wb hWb => ?_
  have hU0 : Unt Wb (.pointer (some ⟨w1.heap.size, 0, none⟩)) (some w1.heap.size) 0 := by subst hWb; exact Unt.at_ (heap_alloc_new w1 _)
  have B0 : Below w.heap.size w Wb := by subst hWb; exact (by repeat (first | (with_reducible exact Below.refl _ _) | (with_reducible assumption) | (with_reducible refine Below.drew ?_) | (with_reducible refine Below.alloc ?_ ?_ _) | (with_reducible refine Below.setCell ?_ ?_ _) | (with_reducible refine Below.trans ?_ (Below.mono hb ?_)) | (with_reducible refine Below.trans ?_ (Below.mono hb1 ?_)) | (with_reducible refine Below.trans ?_ (Below.mono hb2 ?_)) | (with_reducible refine Below.trans ?_ (Below.mono hb3 ?_)) | (with_reducible refine Below.trans ?_ (Below.mono hb4 ?_)) | (with_reducible refine Below.trans ?_ (Below.mono hb5 ?_)) | (with_reducible refine Below.trans ?_ (Below.mono hb6 ?_)) | (with_reducible refine Below.trans ?_ (Below.mono hb7 ?_)) | (with_reducible refine Below.trans ?_ (Below.mono hb8 ?_)) | (with_reducible refine Below.trans ?_ (Below.mono hb9 ?_)) | (focus (first | omega | (simp; done) | (simp; omega))) | exact hB))
  have hG : w.heap.size ≤ w1.heap.size := hb1.size
  clear hWb hb1 hc1 hf1 hB
  generalize w1.heap.size = G at *
  go_wp2_with fail
  go_loopw [5, 19] (fun m i wr => ∃ (k : Nat) (c : Int), k ≤ n ∧ i = .int .i64 k ∧ m = .int .i64 c ∧ 0 ≤ c ∧ c ≤ k ∧ Unt wr (.pointer (some ⟨G, 0, none⟩)) (some G) c ∧ Below w.heap.size w wr) (fun _ i _ => n - (intOf i).toNat)
  case atStart => exact ⟨0, 0, Nat.zero_le _, rfl, rfl, by omega, by omega, hU0, B0⟩
  case round =>
    clear hU0 B0
    obtain ⟨k, c, hk, rfl, rfl, hc0, hck, hU, hB⟩ := hrel
    by_cases hlt : k < n
    · obtain ⟨b1, o1, rfl, l1, hcell⟩ := (HA.out.call hB) (by omega)
      obtain ⟨c1, c2, c3⟩ := hcell k hlt
      obtain ⟨k64, a64, b64⟩ := h3 k
      have ia : (0 : Int) ≤ (k : Int) := by omega
      have ib : (k : Int) < (n : Int) := by omega
      clear hcell
      generalize ks k = kk at *
      generalize as_ k = a at *
      generalize bs k = b at *
      go_upto_region 11 with (fail)
      refine at_world fun W1 hW1 => ?_
      have bx : W1.heap[wr.heap.size]? = some (.cells #[.int .i64 kk, .int .i64 a, .int .i64 b] 68 (0, 0)) := by subst hW1; exact heap_alloc_new wr _
      have BW1 : Below wr.heap.size wr W1 := by subst hW1; exact (Below.refl _ _).alloc (Nat.le_refl _) _
      have hU1 := hU.call BW1
      have B1 := hB.trans (BW1.mono hB.size)
      have nP : wr.heap.size ≠ G := by have := hU.lt G rfl; omega
      have lx := lt_of_block bx
      have p0 := cell_of_row W1 wr.heap.size 0 _ _ _ bx
      have p1 := cell_of_row W1 wr.heap.size 1 _ _ _ bx
      have p2 := cell_of_row W1 wr.heap.size 2 _ _ _ bx
      simp only [List.getElem?_toArray, List.getElem?_cons_zero, List.getElem?_cons_succ] at p0 p1 p2
      clear hW1 BW1 hU c1 c2 c3 l1 hB
      generalize wr.heap.size = P at *
      by_cases hbad : kk < 1 ∨ 9 < kk
      · by_cases h1 : kk < 1
        · have e1 : decide (kk < 1) = true := decide_eq_true h1
          clear hbad h1
          go_wp2_with fail
          go_roundw
          case rel => exact ⟨k + 1, c, by omega, by simp, rfl, hc0, by omega, hU1, B1⟩
          case measure => simp [intOf]; omega
        · have e1 : decide (kk < 1) = false := decide_eq_false h1
          have e2 : decide ((9 : Int) < kk) = true := decide_eq_true (by omega)
          clear hbad h1
          go_wp2_with fail
          go_roundw
          case rel => exact ⟨k + 1, c, by omega, by simp, rfl, hc0, by omega, hU1, B1⟩
          case measure => simp [intOf]; omega
      · have e1 : decide (kk < 1) = false := decide_eq_false (by omega)
        have e2 : decide ((9 : Int) < kk) = false := decide_eq_false (by omega)
        by_cases h8 : kk = 8
        · subst h8
          clear hbad
          have kn := cell_of_one hU1.some_
          have kf := free_of_one hU1.some_
          have l2 := hU1.lt G rfl
          go_wp2_with (go_at_call 48; go_in)
          go_end0
          go_wp2_with (go_at_call 48; go_in)
          go_end0
          go_wp2_with fail
          go_roundw
          case rel => exact ⟨k + 1, 0, by omega, by simp, rfl, by omega, by omega, Unt.at_ (one_setCell hU1.some_), B1.setCell hG _⟩
          case measure => simp [intOf]; omega
        · have e3 : (kk == 8) = false := beq_eq_false_iff_ne.mpr h8
          have WN := Lib.hid (fun W => want_any kk a b (by omega) (by omega) h8 a64 b64 W)
          have S1 := Lib.hid (fun W h => step_any (.pointer (some ⟨G, 0, none⟩)) (some G) c kk a b (by omega) (by omega) h8 a64 b64 W h hc0 (by omega))
          have S2 := Lib.hid (fun W => step_any (.pointer none) none 0 kk a b (by omega) (by omega) h8 a64 b64 W (Unt.nil _ _) (by omega) (by omega))
          have i1 : IntKind.i64.wrap (c + 1) = c + 1 := IntWalk.i64_in _ (by omega)
          clear hbad h8
          generalize opV kk a b = v at *
          generalize opO kk a b = o at *
          go_upto_region 17 with (go_at_call 49; refine (WN.out _).mono ?_; rintro e y1 ⟨rfl, hb1⟩)
          have q0 := (hb1.cell (p := ⟨P, 0, none⟩) lx).trans p0
          have q1 := (hb1.cell (p := ⟨P, 1, none⟩) lx).trans p1
          have q2 := (hb1.cell (p := ⟨P, 2, none⟩) lx).trans p2
          have hU2 := hU1.call hb1
          have B2 := B1.trans (hb1.mono B1.size)
          have lz : P < y1.heap.size := Nat.lt_of_lt_of_le lx hb1.size
          have nPs : some P ≠ some G := fun e => by injection e with e; exact nP e
          clear p0 p1 p2 hU1 B1 lx hb1 WN
          cases o
          · rw [show ov false = 0 from rfl] at S1
            have tok1 : True := trivial
            go_wp2_with (first
              | (go_at_call 50; have _t := tok1; refine (S1.out _ hU2).mono ?_; rintro e y2 ⟨rfl, hg, hU3⟩; clear tok1 _t; have r0 := (gr_cell hg (x := P) (o := 0) lz nPs).trans q0; have r1 := (gr_cell hg (x := P) (o := 1) lz nPs).trans q1; have r2 := (gr_cell hg (x := P) (o := 2) lz nPs).trans q2; have z2 := hg.size)
              | (go_at_call 50; refine (S2.out _).mono ?_; rintro e y3 ⟨rfl, hg3, _⟩; have hb3 := gr_none hg3; have hU4 := hU3.call hb3)
              | (go_at_call 51; refine (ucount_any _ (some G) (c + 0) _ hU4).mono ?_; rw [if_neg (by simp)]; rintro e y4 ⟨rfl, rfl⟩)
              | (go_at_call 51; refine (ucount_any (.pointer none) none 0 _ (Unt.nil _ _)).mono ?_; rw [if_pos rfl]; rintro e y5 ⟨rfl, rfl⟩))
            go_roundw
            case rel => exact ⟨k + 1, c, by omega, by simp, by simp, by omega, by omega, by rw [Int.add_zero] at hU4; exact hU4, (B2.trans (gr_new hg B2.size hG)).trans (hb3.mono (B2.trans (gr_new hg B2.size hG)).size)⟩
            case measure => simp [intOf]; omega
          · rw [show ov true = 1 from rfl] at S1
            have tok1 : True := trivial
            go_wp2_with (first
              | (go_at_call 50; have _t := tok1; refine (S1.out _ hU2).mono ?_; rintro e y2 ⟨rfl, hg, hU3⟩; clear tok1 _t; have r0 := (gr_cell hg (x := P) (o := 0) lz nPs).trans q0; have r1 := (gr_cell hg (x := P) (o := 1) lz nPs).trans q1; have r2 := (gr_cell hg (x := P) (o := 2) lz nPs).trans q2; have z2 := hg.size)
              | (go_at_call 50; refine (S2.out _).mono ?_; rintro e y3 ⟨rfl, hg3, _⟩; have hb3 := gr_none hg3; have hU4 := hU3.call hb3)
              | (go_at_call 51; refine (ucount_any _ (some G) (c + 1) _ hU4).mono ?_; rw [if_neg (by simp)]; rintro e y4 ⟨rfl, rfl⟩)
              | (go_at_call 51; refine (ucount_any (.pointer none) none 0 _ (Unt.nil _ _)).mono ?_; rw [if_pos rfl]; rintro e y5 ⟨rfl, rfl⟩))
            go_roundw
            case rel => exact ⟨k + 1, c + 1, by omega, by simp, by simp, by omega, by omega, hU4, (B2.trans (gr_new hg B2.size hG)).trans (hb3.mono (B2.trans (gr_new hg B2.size hG)).size)⟩
            case measure => simp [intOf]; omega
    · obtain rfl : k = n := by omega
      go_wp2_with (go_at_call 51; refine (ucount_any _ (some G) c _ hU).mono ?_; rw [if_neg (by simp)]; rintro e y4 ⟨rfl, rfl⟩)
      go_ret
      exact ⟨rfl, hB⟩
theorem fixUnits_walk (A : Option Addr) (n cp : Nat) (ks as_ bs : Nat → Int) (w : World) (i0 : RdO w A n ks as_ bs ∧ All3 ks as_ bs) :
    Calls Try.prog 16 #[.slice A n cp] w fun e w' => e = .returned (.bool true) ∧ Below w.heap.size w w' := by
  by_cases h : n ≤ 200
  · exact funits_main A n cp ks as_ bs w h i0.1 i0.2
  · have AW := Lib.hid (fun W => awake2_any W)
    have d1 : decide ((200 : Int) < (n : Int)) = true := decide_eq_true (by omega)
    clear h
    go_enter Try.func16, Try.ntmps16
    go_wp2_with (go_at_call 17; refine (AW.out _).mono ?_; rintro e w1 ⟨rfl, hb1⟩; obtain ⟨hc1, hf1, hz1⟩ := bcell hb1; (try simp at hz1); (try have : w.heap.size < w1.heap.size := by omega); (try have : w.heap.size + 1 < w1.heap.size := by omega); (try have : w.heap.size + 1 + 1 < w1.heap.size := by omega); (try have : w.heap.size + 1 + 1 + 1 < w1.heap.size := by omega); (try have : g < w1.heap.size := by omega); (try have : ga < w1.heap.size := by omega); (try have : gb < w1.heap.size := by omega); (try have : gc < w1.heap.size := by omega); have hB : Below w.heap.size w w1 := (by repeat (first | (with_reducible exact Below.refl _ _) | (with_reducible assumption) | (with_reducible refine Below.drew ?_) | (with_reducible refine Below.alloc ?_ ?_ _) | (with_reducible refine Below.setCell ?_ ?_ _) | (with_reducible refine Below.trans ?_ (Below.mono hb ?_)) | (with_reducible refine Below.trans ?_ (Below.mono hb1 ?_)) | (with_reducible refine Below.trans ?_ (Below.mono hb2 ?_)) | (with_reducible refine Below.trans ?_ (Below.mono hb3 ?_)) | (with_reducible refine Below.trans ?_ (Below.mono hb4 ?_)) | (with_reducible refine Below.trans ?_ (Below.mono hb5 ?_)) | (with_reducible refine Below.trans ?_ (Below.mono hb6 ?_)) | (with_reducible refine Below.trans ?_ (Below.mono hb7 ?_)) | (with_reducible refine Below.trans ?_ (Below.mono hb8 ?_)) | (with_reducible refine Below.trans ?_ (Below.mono hb9 ?_)) | (focus (first | omega | (simp; done) | (simp; omega))) | exact hB)))
    go_ret
    exact ⟨rfl, (by repeat (first | (with_reducible exact Below.refl _ _) | (with_reducible assumption) | (with_reducible refine Below.drew ?_) | (with_reducible refine Below.alloc ?_ ?_ _) | (with_reducible refine Below.setCell ?_ ?_ _) | (with_reducible refine Below.trans ?_ (Below.mono hb ?_)) | (with_reducible refine Below.trans ?_ (Below.mono hb1 ?_)) | (with_reducible refine Below.trans ?_ (Below.mono hb2 ?_)) | (with_reducible refine Below.trans ?_ (Below.mono hb3 ?_)) | (with_reducible refine Below.trans ?_ (Below.mono hb4 ?_)) | (with_reducible refine Below.trans ?_ (Below.mono hb5 ?_)) | (with_reducible refine Below.trans ?_ (Below.mono hb6 ?_)) | (with_reducible refine Below.trans ?_ (Below.mono hb7 ?_)) | (with_reducible refine Below.trans ?_ (Below.mono hb8 ?_)) | (with_reducible refine Below.trans ?_ (Below.mono hb9 ?_)) | (focus (first | omega | (simp; done) | (simp; omega))) | exact hB))⟩
end Go.Proofs.Ytjhepjmggenadaa
