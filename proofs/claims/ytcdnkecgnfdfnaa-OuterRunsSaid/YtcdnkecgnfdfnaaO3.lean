import Derived.Test.YtcdnkecgnfdfnaaO2
/- The example of chapter 10. -/
namespace Go.Proofs.Ytcdnkecgnfdfnaa
open Go.RowKit
attribute [local go_sem ↓] Go.wp_at_zero Go.wp_at_succ

theorem rd_new {w : World} {u : Option Nat} (x : Int) (hu : ∀ g, u = some g → g < w.heap.size) : Rd (w.alloc (.cells #[.int .i64 x] 22)) u (some ⟨w.heap.size, 0, none⟩) 1 [x] :=
  ⟨rfl, fun _ => ⟨_, 0, rfl, by simp, fun e => by have := hu _ e.symm; omega, fun j hj => by
    obtain rfl : j = 0 := by omega
    simp⟩⟩
theorem all_one {x : Int} (h : In64 x) : All64 [x] := by
  intro j
  match j with
  | 0 => exact h
  | j + 1 => show In64 0; unfold In64; omega
theorem rd_one {w : World} {u : Option Nat} {A : Option Addr} {x : Int} (h : Rd w u A 1 [x]) : ∃ b off, A = some ⟨b, off, none⟩ ∧ w.cell? ⟨b, off, none⟩ = some (.int .i64 x) := by
  obtain ⟨b, off, e, _, _, hc⟩ := h.2 (by omega)
  exact ⟨b, off, e, by simpa using hc 0 (by omega)⟩
set_option maxHeartbeats 1000000 in
theorem awake10_any (w : World) : Calls Try.prog 8 #[] w fun e w' => e = .returned (.bool true) ∧ Below w.heap.size w w' := by
  have hn0 : ∀ (B g : Nat), none = some g → g < B := by intro B g e; cases e
  have e1 : obV 2147483648 [0] [17179869184] 1 = [17179869184] := by decide
  have e2 : opV 4294967296 2147483648 [42949672960] [0] [17179869184] 1 = [17179869184] := by decide
  have e3 : obV 2147483648 [17179869184] [17179869184] 1 = [25769803776] := by decide
  have e4 : opV 4294967296 2147483648 [17179869184] [17179869184] [17179869184] 1 = [-12884901888] := by decide
  have E1 := Lib.hid e1
  have E2 := Lib.hid e2
  have E3 := Lib.hid e3
  have E4 := Lib.hid e4
  clear e1 e2 e3 e4
  go_enter Try.func8, Try.ntmps8
  go_wp2_with fail
  refine (obegin_any _ 1 1 [42949672960] _ (by omega) (rd_new _ (hn0 _))).mono ?_
  rintro e w1 ⟨V, V', rfl, hP, hB, hG, hU⟩
  obtain ⟨A, c, rfl, hA⟩ := hP.rd (hn0 _)
  obtain ⟨B, d, rfl, hB2⟩ := hB.rd (hn0 _)
  simp only [List.length_replicate, List.length_singleton] at hA hB2 hP hB
  simp only [List.length_replicate, List.length_singleton]
  have hb1 := gr_none hG
  have z1 := hb1.size
  simp only [World.size_alloc] at z1
  clear hP hB hU hG
  go_wp2_with fail
  refine (ostep_any A B _ 1 c d 1 [42949672960] [0] [17179869184] _ none 0 4294967296 2147483648 _ (by omega) (by omega) (by omega) (by omega) (by omega) (all_one (by unfold In64; omega)) (all_one (by unfold In64; omega)) (all_one (by unfold In64; omega))
    (hA.call (by repeat (first | (with_reducible exact Below.refl _ _) | (with_reducible assumption) | (with_reducible refine Below.drew ?_) | (with_reducible refine Below.alloc ?_ ?_ _) | (with_reducible refine Below.setCell ?_ ?_ _) | (with_reducible refine Below.trans ?_ (Below.mono hb ?_)) | (with_reducible refine Below.trans ?_ (Below.mono hb1 ?_)) | (with_reducible refine Below.trans ?_ (Below.mono hb2 ?_)) | (with_reducible refine Below.trans ?_ (Below.mono hb3 ?_)) | (with_reducible refine Below.trans ?_ (Below.mono hb4 ?_)) | (with_reducible refine Below.trans ?_ (Below.mono hb5 ?_)) | (with_reducible refine Below.trans ?_ (Below.mono hb6 ?_)) | (with_reducible refine Below.trans ?_ (Below.mono hb7 ?_)) | (with_reducible refine Below.trans ?_ (Below.mono hb8 ?_)) | (with_reducible refine Below.trans ?_ (Below.mono hb9 ?_)) | (focus (first | omega | (simp; done) | (simp; omega))) | exact hB))) (hB2.call (by repeat (first | (with_reducible exact Below.refl _ _) | (with_reducible assumption) | (with_reducible refine Below.drew ?_) | (with_reducible refine Below.alloc ?_ ?_ _) | (with_reducible refine Below.setCell ?_ ?_ _) | (with_reducible refine Below.trans ?_ (Below.mono hb ?_)) | (with_reducible refine Below.trans ?_ (Below.mono hb1 ?_)) | (with_reducible refine Below.trans ?_ (Below.mono hb2 ?_)) | (with_reducible refine Below.trans ?_ (Below.mono hb3 ?_)) | (with_reducible refine Below.trans ?_ (Below.mono hb4 ?_)) | (with_reducible refine Below.trans ?_ (Below.mono hb5 ?_)) | (with_reducible refine Below.trans ?_ (Below.mono hb6 ?_)) | (with_reducible refine Below.trans ?_ (Below.mono hb7 ?_)) | (with_reducible refine Below.trans ?_ (Below.mono hb8 ?_)) | (with_reducible refine Below.trans ?_ (Below.mono hb9 ?_)) | (focus (first | omega | (simp; done) | (simp; omega))) | exact hB))) (by simpa using rd_new (w := w1.alloc (.cells #[.slice A 1 c, .slice B 1 d] 28)) (u := none) 17179869184 (hn0 _)) (Unt.nil _ _) (by omega) (by omega)).mono ?_
  rintro e w2 ⟨V, V', rfl, hP, hB, hG, hU⟩
  rw [E2.out] at hP
  rw [E1.out] at hB
  obtain ⟨A2, c2, rfl, hA2⟩ := hP.rd (hn0 _)
  obtain ⟨B2, d2, rfl, hB3⟩ := hB.rd (hn0 _)
  simp only [List.length_singleton] at hA2 hB3
  simp only [List.length_singleton]
  have hb2 := gr_none hG
  have z2 := hb2.size
  simp only [World.size_alloc] at z2 hP hB
  have b1 : w2.heap[w1.heap.size]? = some (.cells #[.slice A 1 c, .slice B 1 d] 28 (0, 0)) := (hb2.block _ (by simp; omega)).trans ((Below.heap_alloc _ _ _ (by simp)).trans (heap_alloc_new w1 _))
  have x0 : w2.cell? ⟨w1.heap.size, 0, none⟩ = some (.slice A 1 c) := by simp [World.cell?, b1]
  have x1 : w2.cell? ⟨w1.heap.size, 1, none⟩ = some (.slice B 1 d) := by simp [World.cell?, b1]
  have y0 : w2.frozen? ⟨w1.heap.size, 0, none⟩ = false := by simp [World.frozen?, b1]
  have y1 : w2.frozen? ⟨w1.heap.size, 1, none⟩ = false := by simp [World.frozen?, b1]
  have bl1 := lt_of_block b1
  have BW2 : Below w.heap.size w w2 := (by repeat (first | (with_reducible exact Below.refl _ _) | (with_reducible assumption) | (with_reducible refine Below.drew ?_) | (with_reducible refine Below.alloc ?_ ?_ _) | (with_reducible refine Below.setCell ?_ ?_ _) | (with_reducible refine Below.trans ?_ (Below.mono hb ?_)) | (with_reducible refine Below.trans ?_ (Below.mono hb1 ?_)) | (with_reducible refine Below.trans ?_ (Below.mono hb2 ?_)) | (with_reducible refine Below.trans ?_ (Below.mono hb3 ?_)) | (with_reducible refine Below.trans ?_ (Below.mono hb4 ?_)) | (with_reducible refine Below.trans ?_ (Below.mono hb5 ?_)) | (with_reducible refine Below.trans ?_ (Below.mono hb6 ?_)) | (with_reducible refine Below.trans ?_ (Below.mono hb7 ?_)) | (with_reducible refine Below.trans ?_ (Below.mono hb8 ?_)) | (with_reducible refine Below.trans ?_ (Below.mono hb9 ?_)) | (focus (first | omega | (simp; done) | (simp; omega))) | exact hB))
  have SA := (hP.setBelow (p := ⟨w1.heap.size, 0, none⟩) (by show w1.heap.size < _; omega) (.slice A2 1 c2)).setBelow (p := ⟨w1.heap.size, 1, none⟩) (by show w1.heap.size < _; omega) (.slice B2 1 d2)
  have SB := (hB.setBelow (p := ⟨w1.heap.size, 0, none⟩) (by show w1.heap.size < _; omega) (.slice A2 1 c2)).setBelow (p := ⟨w1.heap.size, 1, none⟩) (by show w1.heap.size < _; omega) (.slice B2 1 d2)
  have rA := SA.rdAt (hn0 _)
  have rB := SB.rdAt (hn0 _)
  simp only [List.length_singleton] at rA rB
  clear hP hB hU hG hA hB2 hA2 hB3 SA SB
  go_wp2_with fail
  refine (ostep_any A2 B2 _ 1 c2 d2 1 [17179869184] [17179869184] [17179869184] _ none 0 4294967296 2147483648 _ (by omega) (by omega) (by omega) (by omega) (by omega) (all_one (by unfold In64; omega)) (all_one (by unfold In64; omega)) (all_one (by unfold In64; omega))
    (rA.call (by repeat (first | (with_reducible exact Below.refl _ _) | (with_reducible assumption) | (with_reducible refine Below.drew ?_) | (with_reducible refine Below.alloc ?_ ?_ _) | (with_reducible refine Below.setCell ?_ ?_ _) | (with_reducible refine Below.trans ?_ (Below.mono hb ?_)) | (with_reducible refine Below.trans ?_ (Below.mono hb1 ?_)) | (with_reducible refine Below.trans ?_ (Below.mono hb2 ?_)) | (with_reducible refine Below.trans ?_ (Below.mono hb3 ?_)) | (with_reducible refine Below.trans ?_ (Below.mono hb4 ?_)) | (with_reducible refine Below.trans ?_ (Below.mono hb5 ?_)) | (with_reducible refine Below.trans ?_ (Below.mono hb6 ?_)) | (with_reducible refine Below.trans ?_ (Below.mono hb7 ?_)) | (with_reducible refine Below.trans ?_ (Below.mono hb8 ?_)) | (with_reducible refine Below.trans ?_ (Below.mono hb9 ?_)) | (focus (first | omega | (simp; done) | (simp; omega))) | exact hB))) (rB.call (by repeat (first | (with_reducible exact Below.refl _ _) | (with_reducible assumption) | (with_reducible refine Below.drew ?_) | (with_reducible refine Below.alloc ?_ ?_ _) | (with_reducible refine Below.setCell ?_ ?_ _) | (with_reducible refine Below.trans ?_ (Below.mono hb ?_)) | (with_reducible refine Below.trans ?_ (Below.mono hb1 ?_)) | (with_reducible refine Below.trans ?_ (Below.mono hb2 ?_)) | (with_reducible refine Below.trans ?_ (Below.mono hb3 ?_)) | (with_reducible refine Below.trans ?_ (Below.mono hb4 ?_)) | (with_reducible refine Below.trans ?_ (Below.mono hb5 ?_)) | (with_reducible refine Below.trans ?_ (Below.mono hb6 ?_)) | (with_reducible refine Below.trans ?_ (Below.mono hb7 ?_)) | (with_reducible refine Below.trans ?_ (Below.mono hb8 ?_)) | (with_reducible refine Below.trans ?_ (Below.mono hb9 ?_)) | (focus (first | omega | (simp; done) | (simp; omega))) | exact hB))) (by simpa using rd_new (w := (w2.setCell ⟨w1.heap.size, 0, none⟩ (.slice A2 1 c2)).setCell ⟨w1.heap.size, 1, none⟩ (.slice B2 1 d2)) (u := none) 17179869184 (hn0 _)) (Unt.nil _ _) (by omega) (by omega)).mono ?_
  rintro e w3 ⟨V, V', rfl, hP, hB, hG, hU⟩
  rw [E4.out] at hP
  rw [E3.out] at hB
  have hb3 := gr_none hG
  have z3 := hb3.size
  simp only [World.size_alloc, World.size_setCell] at z3 hP hB
  have b3 : w3.heap[w1.heap.size]? = some (.cells #[.slice A2 1 c2, .slice B2 1 d2] 28 (0, 0)) := by
    rw [hb3.block _ (by simp; omega), Below.heap_alloc _ _ _ (by simp; omega)]
    simp [World.setCell, Array.getElem?_modify, b1]
  obtain ⟨A3, c3, rfl, _⟩ := hP.rd (hn0 _)
  obtain ⟨B3, d3, rfl, _⟩ := hB.rd (hn0 _)
  have u0 : w3.cell? ⟨w1.heap.size, 0, none⟩ = some (.slice A2 1 c2) := by simp [World.cell?, b3]
  have u1 : w3.cell? ⟨w1.heap.size, 1, none⟩ = some (.slice B2 1 d2) := by simp [World.cell?, b3]
  have v0 : w3.frozen? ⟨w1.heap.size, 0, none⟩ = false := by simp [World.frozen?, b3]
  have v1 : w3.frozen? ⟨w1.heap.size, 1, none⟩ = false := by simp [World.frozen?, b3]
  have bl3 := lt_of_block b3
  have BW : Below w.heap.size w w3 := BW2.trans (((((((Below.refl (w1.heap.size) w2).setCell (p := ⟨w1.heap.size, 0, none⟩) (Nat.le_refl _) _).setCell (p := ⟨w1.heap.size, 1, none⟩) (Nat.le_refl _) _).alloc (by simp; omega) _).trans (hb3.mono (by simp; omega))) : Below w1.heap.size w2 w3).mono (by have := hb1.size; omega))
  have SA := (hP.setBelow (p := ⟨w1.heap.size, 0, none⟩) (by show w1.heap.size < _; omega) (.slice A3 1 c3)).setBelow (p := ⟨w1.heap.size, 1, none⟩) (by show w1.heap.size < _; omega) (.slice B3 1 d3)
  have SB := (hB.setBelow (p := ⟨w1.heap.size, 0, none⟩) (by show w1.heap.size < _; omega) (.slice A3 1 c3)).setBelow (p := ⟨w1.heap.size, 1, none⟩) (by show w1.heap.size < _; omega) (.slice B3 1 d3)
  have rA := SA.rdAt (hn0 _)
  have rB := SB.rdAt (hn0 _)
  simp only [List.length_singleton] at rA rB
  obtain ⟨gA, oA, rfl, dA⟩ := rd_one rA
  obtain ⟨gB, oB, rfl, dB⟩ := rd_one rB
  simp only [List.length_singleton]
  clear hP hB hU hG SA SB rA rB b1 b3 x0 x1 y0 y1 hb2 hb3
  go_wp2
  go_ret
  exact ⟨rfl, (by repeat (first | (with_reducible exact Below.refl _ _) | (with_reducible assumption) | (with_reducible refine Below.drew ?_) | (with_reducible refine Below.alloc ?_ ?_ _) | (with_reducible refine Below.setCell ?_ ?_ _) | (with_reducible refine Below.trans ?_ (Below.mono hb ?_)) | (with_reducible refine Below.trans ?_ (Below.mono hb1 ?_)) | (with_reducible refine Below.trans ?_ (Below.mono hb2 ?_)) | (with_reducible refine Below.trans ?_ (Below.mono hb3 ?_)) | (with_reducible refine Below.trans ?_ (Below.mono hb4 ?_)) | (with_reducible refine Below.trans ?_ (Below.mono hb5 ?_)) | (with_reducible refine Below.trans ?_ (Below.mono hb6 ?_)) | (with_reducible refine Below.trans ?_ (Below.mono hb7 ?_)) | (with_reducible refine Below.trans ?_ (Below.mono hb8 ?_)) | (with_reducible refine Below.trans ?_ (Below.mono hb9 ?_)) | (focus (first | omega | (simp; done) | (simp; omega))) | exact hB))⟩
end Go.Proofs.Ytcdnkecgnfdfnaa
