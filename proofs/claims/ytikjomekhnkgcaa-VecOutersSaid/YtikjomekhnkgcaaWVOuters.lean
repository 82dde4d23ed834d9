import Derived.Test.YtikjomekhnkgcaaE9
import Derived.Test.YtikjomekhnkgcaaRowF
/- The law VecOuters, walked. -/
namespace Go.Proofs.Ytikjomekhnkgcaa
open Go.RowKit
attribute [local go_sem ↓] Go.wp_at_zero Go.wp_at_succ

set_option maxHeartbeats 2000000 in
theorem vouter_none (A B : Option Addr) (n m cp cq : Nat) (p : Option Addr) (w : World) (hn : n ≤ 200) (hm : m ≤ 200) (h : n = 0 ∨ m = 0) :
    Calls Try.prog 27 #[.pointer p, .slice A n cp, .slice B m cq] w fun e w' => e = .returned (.tuple #[.agg #[.int .i64 0, .int .i64 0, .slice none 0 0], .int .i64 40]) ∧ Below w.heap.size w w' := by
  have FI := Lib.hid (fun W g hS => fits_yes g 0 2 2 (fun j => if j = 0 then A else B) (fun j => if j = 0 then n else m) (fun j => if j = 0 then cp else cq) W (by omega) hS (by intro j _; split <;> omega))
  by_cases h1 : n = 0
  · have e1 : ((n : Int) == 0) = true := beq_iff_eq.mpr (by omega)
    clear h h1
    go_enter Try.func27, Try.ntmps27
    go_wp2_with (go_at_call 48; refine (FI.out _ _ (by intro j hj; match j, hj with | 0, _ => exact cell_of_row _ _ 0 _ _ _ (newest_at _ _ (by simp)) | 1, _ => exact cell_of_row _ _ 1 _ _ _ (newest_at _ _ (by simp)))).mono ?_; rintro e w1 ⟨rfl, rfl⟩)
    exact bodyPost_ret (v := .tuple #[.agg #[.int .i64 0, .int .i64 0, .slice none 0 0], .int .i64 40]) (by simp [*, results, Try.results27, go_sem]) rfl ⟨rfl, (by repeat (first | (with_reducible exact Below.refl _ _) | (with_reducible assumption) | (with_reducible refine Below.drew ?_) | (with_reducible refine Below.alloc ?_ ?_ _) | (with_reducible refine Below.setCell ?_ ?_ _) | (with_reducible refine Below.trans ?_ (Below.mono hb ?_)) | (with_reducible refine Below.trans ?_ (Below.mono hb1 ?_)) | (with_reducible refine Below.trans ?_ (Below.mono hb2 ?_)) | (with_reducible refine Below.trans ?_ (Below.mono hb3 ?_)) | (with_reducible refine Below.trans ?_ (Below.mono hb4 ?_)) | (with_reducible refine Below.trans ?_ (Below.mono hb5 ?_)) | (with_reducible refine Below.trans ?_ (Below.mono hb6 ?_)) | (with_reducible refine Below.trans ?_ (Below.mono hb7 ?_)) | (with_reducible refine Below.trans ?_ (Below.mono hb8 ?_)) | (with_reducible refine Below.trans ?_ (Below.mono hb9 ?_)) | (focus (first | omega | (simp; done) | (simp; omega))) | exact hB))⟩
  · have e1 : ((n : Int) == 0) = false := beq_eq_false_iff_ne.mpr (by omega)
    have e2 : ((m : Int) == 0) = true := beq_iff_eq.mpr (by omega)
    clear h h1
    go_enter Try.func27, Try.ntmps27
    go_wp2_with (go_at_call 48; refine (FI.out _ _ (by intro j hj; match j, hj with | 0, _ => exact cell_of_row _ _ 0 _ _ _ (newest_at _ _ (by simp)) | 1, _ => exact cell_of_row _ _ 1 _ _ _ (newest_at _ _ (by simp)))).mono ?_; rintro e w1 ⟨rfl, rfl⟩)
    exact bodyPost_ret (v := .tuple #[.agg #[.int .i64 0, .int .i64 0, .slice none 0 0], .int .i64 40]) (by simp [*, results, Try.results27, go_sem]) rfl ⟨rfl, (by repeat (first | (with_reducible exact Below.refl _ _) | (with_reducible assumption) | (with_reducible refine Below.drew ?_) | (with_reducible refine Below.alloc ?_ ?_ _) | (with_reducible refine Below.setCell ?_ ?_ _) | (with_reducible refine Below.trans ?_ (Below.mono hb ?_)) | (with_reducible refine Below.trans ?_ (Below.mono hb1 ?_)) | (with_reducible refine Below.trans ?_ (Below.mono hb2 ?_)) | (with_reducible refine Below.trans ?_ (Below.mono hb3 ?_)) | (with_reducible refine Below.trans ?_ (Below.mono hb4 ?_)) | (with_reducible refine Below.trans ?_ (Below.mono hb5 ?_)) | (with_reducible refine Below.trans ?_ (Below.mono hb6 ?_)) | (with_reducible refine Below.trans ?_ (Below.mono hb7 ?_)) | (with_reducible refine Below.trans ?_ (Below.mono hb8 ?_)) | (with_reducible refine Below.trans ?_ (Below.mono hb9 ?_)) | (focus (first | omega | (simp; done) | (simp; omega))) | exact hB))⟩
set_option maxHeartbeats 4000000 in
set_option maxRecDepth 100000 in
theorem vouters_main (A B : Option Addr) (n m cp cq : Nat) (xs ys : List Int) (w : World) (hn : n ≤ 200) (hm : m ≤ 200) (hn0 : 0 < n) (hm0 : 0 < m) (hA : Rd w none A n xs) (hB0 : Rd w none B m ys) (ha : All64 xs) (hb0 : All64 ys) :
    Calls Try.prog 5 #[.slice A n cp, .slice B m cq] w fun e w' => e = .returned (.bool true) ∧ Below w.heap.size w w' := by
  have AW := Lib.hid (fun W => awake4_any W)
  have T1 := Lib.hid (decide_eq_true (show n ≤ 200 ∧ m ≤ 200 from ⟨hn, hm⟩))
  have HA := Lib.hid hA
  have HB := Lib.hid hB0
  have m1 : n < 1000000 := by omega
  have m2 : m < 1000000 := by omega
  have m3 : n * m < 1000000 := by
    have := Nat.mul_le_mul hn hm
    omega
  have e1 : ((n : Int) == 0) = false := beq_eq_false_iff_ne.mpr (by omega)
  have e2 : ((m : Int) == 0) = false := beq_eq_false_iff_ne.mpr (by omega)
  clear hA hB0
  go_enter Try.func5, Try.ntmps5
  go_upto_region 6 with (first
    | (go_at_call 13; refine (AW.out _).mono ?_; rintro e w1 ⟨rfl, hb1⟩; obtain ⟨hc1, hf1, hz1⟩ := bcell hb1; (try simp at hz1); (try have : w.heap.size < w1.heap.size := by omega); (try have : w.heap.size + 1 < w1.heap.size := by omega); (try have : w.heap.size + 1 + 1 < w1.heap.size := by omega); (try have : w.heap.size + 1 + 1 + 1 < w1.heap.size := by omega); (try have : g < w1.heap.size := by omega); (try have : ga < w1.heap.size := by omega); (try have : gb < w1.heap.size := by omega); (try have : gc < w1.heap.size := by omega); have hB : Below w.heap.size w w1 := (by repeat (first | (with_reducible exact Below.refl _ _) | (with_reducible assumption) | (with_reducible refine Below.drew ?_) | (with_reducible refine Below.alloc ?_ ?_ _) | (with_reducible refine Below.setCell ?_ ?_ _) | (with_reducible refine Below.trans ?_ (Below.mono hb ?_)) | (with_reducible refine Below.trans ?_ (Below.mono hb1 ?_)) | (with_reducible refine Below.trans ?_ (Below.mono hb2 ?_)) | (with_reducible refine Below.trans ?_ (Below.mono hb3 ?_)) | (with_reducible refine Below.trans ?_ (Below.mono hb4 ?_)) | (with_reducible refine Below.trans ?_ (Below.mono hb5 ?_)) | (with_reducible refine Below.trans ?_ (Below.mono hb6 ?_)) | (with_reducible refine Below.trans ?_ (Below.mono hb7 ?_)) | (with_reducible refine Below.trans ?_ (Below.mono hb8 ?_)) | (with_reducible refine Below.trans ?_ (Below.mono hb9 ?_)) | (focus (first | omega | (simp; done) | (simp; omega))) | exact hB)))
    | (go_at_call 14; refine (few4_two A B n m cp cq _ _ (by simp) (by simp)).mono ?_; rw [T1.out]; rintro e w2 ⟨rfl, rfl⟩))
  refine at_world fun Wb hWb => ?_
  have tw : Two w Wb (w1.heap.size + 1) 0 := by
    subst hWb
    refine ⟨Unt.at_ ((Below.heap_alloc _ _ _ (by simp)).trans (newest_at _ _ (by simp))), newest_at _ _ (by simp), (by repeat (first | (with_reducible exact Below.refl _ _) | (with_reducible assumption) | (with_reducible refine Below.drew ?_) | (with_reducible refine Below.alloc ?_ ?_ _) | (with_reducible refine Below.setCell ?_ ?_ _) | (with_reducible refine Below.trans ?_ (Below.mono hb ?_)) | (with_reducible refine Below.trans ?_ (Below.mono hb1 ?_)) | (with_reducible refine Below.trans ?_ (Below.mono hb2 ?_)) | (with_reducible refine Below.trans ?_ (Below.mono hb3 ?_)) | (with_reducible refine Below.trans ?_ (Below.mono hb4 ?_)) | (with_reducible refine Below.trans ?_ (Below.mono hb5 ?_)) | (with_reducible refine Below.trans ?_ (Below.mono hb6 ?_)) | (with_reducible refine Below.trans ?_ (Below.mono hb7 ?_)) | (with_reducible refine Below.trans ?_ (Below.mono hb8 ?_)) | (with_reducible refine Below.trans ?_ (Below.mono hb9 ?_)) | (focus (first | omega | (simp; done) | (simp; omega))) | exact hB))⟩
  have hG : w.heap.size ≤ w1.heap.size + 1 := by omega
  clear hWb hb1 hc1 hf1 hB
  generalize w1.heap.size + 1 = G at *
  have hSw : ∀ g, SG G g → w.heap.size ≤ g := by rintro g (rfl | rfl) <;> omega
  have hSb : ∀ g, SG G g → g < Wb.heap.size := by
    rintro g (rfl | rfl)
    · exact tw.1.lt g rfl
    · exact tw.2.1.lt
  have rA := (HA.out.apart hSw).call tw.2.2
  have rB := (HB.out.apart hSw).call tw.2.2
  have s0 : ST w Wb G 0 0 A n xs B m ys A B := ⟨⟨rA, rB, rA, rB⟩, tw⟩
  clear tw rA rB hSw
  go_upto_region 7 with (go_at_call 27; refine (vouter_any A B n m cp cq xs ys (.pointer (some ⟨G, 0, none⟩)) (some G) 0 _ ha hb0 hn hm hn0 hm0 (s0.1.1.at_ (sgL G)) (s0.1.2.1.at_ (sgL G)) s0.2.1 (by omega) (by omega)).mono ?_; rintro e y1 ⟨V, rfl, hO, hg, hU⟩; obtain ⟨A1, c1, rfl, r1⟩ := hO.apart (S := SG G) (outL_len _ _ _ _) hSb)
  have s1 := s0.left hg hU hG
  refine at_world fun W1 hW1 => ?_
  have BW1 : Below y1.heap.size y1 W1 := by subst hW1; exact (Below.refl _ _).alloc (Nat.le_refl _) _
  have b1 : W1.heap[y1.heap.size]? = some (.cells #[.int .i64 n, .int .i64 m, .slice A1 (n * m) c1] 24 (0, 0)) := by subst hW1; exact heap_alloc_new y1 _
  have s2 := s1.call BW1
  have r2 := r1.call BW1
  have nG : G + 1 < y1.heap.size := by have := s1.2.2.1.lt; omega
  clear hW1 BW1 s0 s1 r1 hO hg hU hSb
  generalize y1.heap.size = N1 at *
  have tok1 : True := trivial
  go_upto_region 10 with (first
    | (go_at_call 24; have _t := tok1; refine (plain04_any A n cp xs _ m1 s2.1.1.none_).mono ?_; rintro e x1 ⟨V1, rfl, hO1, hb1⟩; clear tok1 _t; obtain ⟨D1, d1, rfl, rC⟩ := hO1.apart (S := SG G) HA.out.1 s2.lt; have s3 := s2.call hb1; clear hO1)
    | (go_at_call 24; refine (plain04_any B m cq ys _ m2 s3.1.2.1.none_).mono ?_; rintro e x2 ⟨V2, rfl, hO2, hb2⟩; obtain ⟨D2, d2, rfl, rD⟩ := hO2.apart (S := SG G) HB.out.1 s3.lt; have s4 := s3.call hb2; clear hO2)
    | (go_at_call 29; refine (router_any D1 D2 n m d1 d2 (G + 1) xs ys 0 _ ha hb0 hn hm hn0 hm0 ((rC.call hb2).at_ (sgR G)) (rD.at_ (sgR G)) s4.2.2.1 (by omega) (by omega)).mono ?_; rintro e x3 ⟨V3, rfl, hO3, hg3, hU3⟩; obtain ⟨A3, c3, rfl, r3⟩ := hO3.apart (S := SG G) (outL_len _ _ _ _) s4.lt; have s5 := s4.right hg3 hU3 hG; have b3 := hp_grown (hp_call (hp_call b1 hb1) hb2) hg3 (fun e => by injection e with e; omega); have r2b := ((r2.call hb1).call hb2).grow hg3 (sgR G)))
  refine at_world fun W2 hW2 => ?_
  have BW2 : Below x3.heap.size x3 W2 := by subst hW2; exact (Below.refl _ _).alloc (Nat.le_refl _) _
  have b4 : W2.heap[x3.heap.size]? = some (.cells #[.int .i64 n, .int .i64 m, .slice A3 (n * m) c3] 46 (0, 0)) := by subst hW2; exact heap_alloc_new x3 _
  have s6 := s5.call BW2
  have r2c := r2b.call BW2
  have r3c := r3.call BW2
  have b5 := hp_call b3 BW2
  clear hW2 BW2 s2 s3 s4 s5 b1 b3 r2 r2b r3 rC rD hb1 hb2 hg3 hU3 hO3
  generalize x3.heap.size = N2 at *
  have p0 := cell_of_row W2 N1 0 _ _ _ b5
  have p1 := cell_of_row W2 N1 1 _ _ _ b5
  have p2 := cell_of_row W2 N1 2 _ _ _ b5
  have q0 := cell_of_row W2 N2 0 _ _ _ b4
  have q1 := cell_of_row W2 N2 1 _ _ _ b4
  have q2 := cell_of_row W2 N2 2 _ _ _ b4
  simp only [List.getElem?_toArray, List.getElem?_cons_zero, List.getElem?_cons_succ] at p0 p1 p2 q0 q1 q2
  clear b4 b5
  go_wp2_with (go_at_call 22; refine (like4_any A1 A3 (n * m) c1 c3 G (G + 1) _ _ _ m3 r2c.none_ r3c.none_ s6.2.1 s6.2.2.1).mono ?_; rintro e x4 ⟨rfl, hb4⟩)
  go_ret
  exact ⟨rfl, (s6.call hb4).2.2.2⟩
set_option maxHeartbeats 2000000 in
theorem vouters_none (A B : Option Addr) (n m cp cq : Nat) (w : World) (hn : n ≤ 200) (hm : m ≤ 200) (h : n = 0 ∨ m = 0) :
    Calls Try.prog 5 #[.slice A n cp, .slice B m cq] w fun e w' => e = .returned (.bool true) ∧ Below w.heap.size w w' := by
  have AW := Lib.hid (fun W => awake4_any W)
  have T1 := Lib.hid (decide_eq_true (show n ≤ 200 ∧ m ≤ 200 from ⟨hn, hm⟩))
  by_cases h1 : n = 0
  · have e1 : ((n : Int) == 0) = true := beq_iff_eq.mpr (by omega)
    clear h1
    go_enter Try.func5, Try.ntmps5
    go_upto_region 6 with (first
      | (go_at_call 13; refine (AW.out _).mono ?_; rintro e w1 ⟨rfl, hb1⟩; obtain ⟨hc1, hf1, hz1⟩ := bcell hb1; (try simp at hz1); (try have : w.heap.size < w1.heap.size := by omega); (try have : w.heap.size + 1 < w1.heap.size := by omega); (try have : w.heap.size + 1 + 1 < w1.heap.size := by omega); (try have : w.heap.size + 1 + 1 + 1 < w1.heap.size := by omega); (try have : g < w1.heap.size := by omega); (try have : ga < w1.heap.size := by omega); (try have : gb < w1.heap.size := by omega); (try have : gc < w1.heap.size := by omega); have hB : Below w.heap.size w w1 := (by repeat (first | (with_reducible exact Below.refl _ _) | (with_reducible assumption) | (with_reducible refine Below.drew ?_) | (with_reducible refine Below.alloc ?_ ?_ _) | (with_reducible refine Below.setCell ?_ ?_ _) | (with_reducible refine Below.trans ?_ (Below.mono hb ?_)) | (with_reducible refine Below.trans ?_ (Below.mono hb1 ?_)) | (with_reducible refine Below.trans ?_ (Below.mono hb2 ?_)) | (with_reducible refine Below.trans ?_ (Below.mono hb3 ?_)) | (with_reducible refine Below.trans ?_ (Below.mono hb4 ?_)) | (with_reducible refine Below.trans ?_ (Below.mono hb5 ?_)) | (with_reducible refine Below.trans ?_ (Below.mono hb6 ?_)) | (with_reducible refine Below.trans ?_ (Below.mono hb7 ?_)) | (with_reducible refine Below.trans ?_ (Below.mono hb8 ?_)) | (with_reducible refine Below.trans ?_ (Below.mono hb9 ?_)) | (focus (first | omega | (simp; done) | (simp; omega))) | exact hB)))
      | (go_at_call 14; refine (few4_two A B n m cp cq _ _ (by simp) (by simp)).mono ?_; rw [T1.out]; rintro e w2 ⟨rfl, rfl⟩))
    refine at_world fun Wb hWb => ?_
    have tw : Two w Wb (w1.heap.size + 1) 0 := by
      subst hWb
      refine ⟨Unt.at_ ((Below.heap_alloc _ _ _ (by simp)).trans (newest_at _ _ (by simp))), newest_at _ _ (by simp), (by repeat (first | (with_reducible exact Below.refl _ _) | (with_reducible assumption) | (with_reducible refine Below.drew ?_) | (with_reducible refine Below.alloc ?_ ?_ _) | (with_reducible refine Below.setCell ?_ ?_ _) | (with_reducible refine Below.trans ?_ (Below.mono hb ?_)) | (with_reducible refine Below.trans ?_ (Below.mono hb1 ?_)) | (with_reducible refine Below.trans ?_ (Below.mono hb2 ?_)) | (with_reducible refine Below.trans ?_ (Below.mono hb3 ?_)) | (with_reducible refine Below.trans ?_ (Below.mono hb4 ?_)) | (with_reducible refine Below.trans ?_ (Below.mono hb5 ?_)) | (with_reducible refine Below.trans ?_ (Below.mono hb6 ?_)) | (with_reducible refine Below.trans ?_ (Below.mono hb7 ?_)) | (with_reducible refine Below.trans ?_ (Below.mono hb8 ?_)) | (with_reducible refine Below.trans ?_ (Below.mono hb9 ?_)) | (focus (first | omega | (simp; done) | (simp; omega))) | exact hB))⟩
    clear hWb hb1 hc1 hf1 hB
    generalize w1.heap.size + 1 = G at *
    go_wp2_with (first
      | (go_at_call 27; refine (vouter_none A B n m cp cq _ _ hn hm h).mono ?_; rintro e y1 ⟨rfl, hb1⟩; have t1 := tw.call hb1)
      | (go_at_call 28; refine (ucnt G 0 _ (t1.1.call (by repeat (first | (with_reducible exact Below.refl _ _) | (with_reducible assumption) | (with_reducible refine Below.drew ?_) | (with_reducible refine Below.alloc ?_ ?_ _) | (with_reducible refine Below.setCell ?_ ?_ _) | (with_reducible refine Below.trans ?_ (Below.mono hb ?_)) | (with_reducible refine Below.trans ?_ (Below.mono hb1 ?_)) | (with_reducible refine Below.trans ?_ (Below.mono hb2 ?_)) | (with_reducible refine Below.trans ?_ (Below.mono hb3 ?_)) | (with_reducible refine Below.trans ?_ (Below.mono hb4 ?_)) | (with_reducible refine Below.trans ?_ (Below.mono hb5 ?_)) | (with_reducible refine Below.trans ?_ (Below.mono hb6 ?_)) | (with_reducible refine Below.trans ?_ (Below.mono hb7 ?_)) | (with_reducible refine Below.trans ?_ (Below.mono hb8 ?_)) | (with_reducible refine Below.trans ?_ (Below.mono hb9 ?_)) | (focus (first | omega | (simp; done) | (simp; omega))) | exact hB)))).mono ?_; rintro e y2 ⟨rfl, hb2⟩))
    go_ret
    exact ⟨rfl, t1.2.2.trans (Below.mono (show Below y1.heap.size y1 _ from (by repeat (first | (with_reducible exact Below.refl _ _) | (with_reducible assumption) | (with_reducible refine Below.drew ?_) | (with_reducible refine Below.alloc ?_ ?_ _) | (with_reducible refine Below.setCell ?_ ?_ _) | (with_reducible refine Below.trans ?_ (Below.mono hb ?_)) | (with_reducible refine Below.trans ?_ (Below.mono hb1 ?_)) | (with_reducible refine Below.trans ?_ (Below.mono hb2 ?_)) | (with_reducible refine Below.trans ?_ (Below.mono hb3 ?_)) | (with_reducible refine Below.trans ?_ (Below.mono hb4 ?_)) | (with_reducible refine Below.trans ?_ (Below.mono hb5 ?_)) | (with_reducible refine Below.trans ?_ (Below.mono hb6 ?_)) | (with_reducible refine Below.trans ?_ (Below.mono hb7 ?_)) | (with_reducible refine Below.trans ?_ (Below.mono hb8 ?_)) | (with_reducible refine Below.trans ?_ (Below.mono hb9 ?_)) | (focus (first | omega | (simp; done) | (simp; omega))) | exact hB))) t1.2.2.size)⟩
  · have e1 : ((n : Int) == 0) = false := beq_eq_false_iff_ne.mpr (by omega)
    have e2 : ((m : Int) == 0) = true := beq_iff_eq.mpr (by omega)
    clear h1
    go_enter Try.func5, Try.ntmps5
    go_upto_region 6 with (first
      | (go_at_call 13; refine (AW.out _).mono ?_; rintro e w1 ⟨rfl, hb1⟩; obtain ⟨hc1, hf1, hz1⟩ := bcell hb1; (try simp at hz1); (try have : w.heap.size < w1.heap.size := by omega); (try have : w.heap.size + 1 < w1.heap.size := by omega); (try have : w.heap.size + 1 + 1 < w1.heap.size := by omega); (try have : w.heap.size + 1 + 1 + 1 < w1.heap.size := by omega); (try have : g < w1.heap.size := by omega); (try have : ga < w1.heap.size := by omega); (try have : gb < w1.heap.size := by omega); (try have : gc < w1.heap.size := by omega); have hB : Below w.heap.size w w1 := (by repeat (first | (with_reducible exact Below.refl _ _) | (with_reducible assumption) | (with_reducible refine Below.drew ?_) | (with_reducible refine Below.alloc ?_ ?_ _) | (with_reducible refine Below.setCell ?_ ?_ _) | (with_reducible refine Below.trans ?_ (Below.mono hb ?_)) | (with_reducible refine Below.trans ?_ (Below.mono hb1 ?_)) | (with_reducible refine Below.trans ?_ (Below.mono hb2 ?_)) | (with_reducible refine Below.trans ?_ (Below.mono hb3 ?_)) | (with_reducible refine Below.trans ?_ (Below.mono hb4 ?_)) | (with_reducible refine Below.trans ?_ (Below.mono hb5 ?_)) | (with_reducible refine Below.trans ?_ (Below.mono hb6 ?_)) | (with_reducible refine Below.trans ?_ (Below.mono hb7 ?_)) | (with_reducible refine Below.trans ?_ (Below.mono hb8 ?_)) | (with_reducible refine Below.trans ?_ (Below.mono hb9 ?_)) | (focus (first | omega | (simp; done) | (simp; omega))) | exact hB)))
      | (go_at_call 14; refine (few4_two A B n m cp cq _ _ (by simp) (by simp)).mono ?_; rw [T1.out]; rintro e w2 ⟨rfl, rfl⟩))
    refine at_world fun Wb hWb => ?_
    have tw : Two w Wb (w1.heap.size + 1) 0 := by
      subst hWb
      refine ⟨Unt.at_ ((Below.heap_alloc _ _ _ (by simp)).trans (newest_at _ _ (by simp))), newest_at _ _ (by simp), (by repeat (first | (with_reducible exact Below.refl _ _) | (with_reducible assumption) | (with_reducible refine Below.drew ?_) | (with_reducible refine Below.alloc ?_ ?_ _) | (with_reducible refine Below.setCell ?_ ?_ _) | (with_reducible refine Below.trans ?_ (Below.mono hb ?_)) | (with_reducible refine Below.trans ?_ (Below.mono hb1 ?_)) | (with_reducible refine Below.trans ?_ (Below.mono hb2 ?_)) | (with_reducible refine Below.trans ?_ (Below.mono hb3 ?_)) | (with_reducible refine Below.trans ?_ (Below.mono hb4 ?_)) | (with_reducible refine Below.trans ?_ (Below.mono hb5 ?_)) | (with_reducible refine Below.trans ?_ (Below.mono hb6 ?_)) | (with_reducible refine Below.trans ?_ (Below.mono hb7 ?_)) | (with_reducible refine Below.trans ?_ (Below.mono hb8 ?_)) | (with_reducible refine Below.trans ?_ (Below.mono hb9 ?_)) | (focus (first | omega | (simp; done) | (simp; omega))) | exact hB))⟩
    clear hWb hb1 hc1 hf1 hB
    generalize w1.heap.size + 1 = G at *
    go_wp2_with (first
      | (go_at_call 27; refine (vouter_none A B n m cp cq _ _ hn hm h).mono ?_; rintro e y1 ⟨rfl, hb1⟩; have t1 := tw.call hb1)
      | (go_at_call 28; refine (ucnt G 0 _ (t1.1.call (by repeat (first | (with_reducible exact Below.refl _ _) | (with_reducible assumption) | (with_reducible refine Below.drew ?_) | (with_reducible refine Below.alloc ?_ ?_ _) | (with_reducible refine Below.setCell ?_ ?_ _) | (with_reducible refine Below.trans ?_ (Below.mono hb ?_)) | (with_reducible refine Below.trans ?_ (Below.mono hb1 ?_)) | (with_reducible refine Below.trans ?_ (Below.mono hb2 ?_)) | (with_reducible refine Below.trans ?_ (Below.mono hb3 ?_)) | (with_reducible refine Below.trans ?_ (Below.mono hb4 ?_)) | (with_reducible refine Below.trans ?_ (Below.mono hb5 ?_)) | (with_reducible refine Below.trans ?_ (Below.mono hb6 ?_)) | (with_reducible refine Below.trans ?_ (Below.mono hb7 ?_)) | (with_reducible refine Below.trans ?_ (Below.mono hb8 ?_)) | (with_reducible refine Below.trans ?_ (Below.mono hb9 ?_)) | (focus (first | omega | (simp; done) | (simp; omega))) | exact hB)))).mono ?_; rintro e y2 ⟨rfl, hb2⟩))
    go_ret
    exact ⟨rfl, t1.2.2.trans (Below.mono (show Below y1.heap.size y1 _ from (by repeat (first | (with_reducible exact Below.refl _ _) | (with_reducible assumption) | (with_reducible refine Below.drew ?_) | (with_reducible refine Below.alloc ?_ ?_ _) | (with_reducible refine Below.setCell ?_ ?_ _) | (with_reducible refine Below.trans ?_ (Below.mono hb ?_)) | (with_reducible refine Below.trans ?_ (Below.mono hb1 ?_)) | (with_reducible refine Below.trans ?_ (Below.mono hb2 ?_)) | (with_reducible refine Below.trans ?_ (Below.mono hb3 ?_)) | (with_reducible refine Below.trans ?_ (Below.mono hb4 ?_)) | (with_reducible refine Below.trans ?_ (Below.mono hb5 ?_)) | (with_reducible refine Below.trans ?_ (Below.mono hb6 ?_)) | (with_reducible refine Below.trans ?_ (Below.mono hb7 ?_)) | (with_reducible refine Below.trans ?_ (Below.mono hb8 ?_)) | (with_reducible refine Below.trans ?_ (Below.mono hb9 ?_)) | (focus (first | omega | (simp; done) | (simp; omega))) | exact hB))) t1.2.2.size)⟩
theorem vecOuters_walk (A : Option Addr) (n cp : Nat) (xs : List Int) (B : Option Addr) (m cq : Nat) (ys : List Int) (w : World) (i0 : Row64 w A n xs) (i1 : Row64 w B m ys) :
    Calls Try.prog 5 #[.slice A n cp, .slice B m cq] w fun e w' => e = .returned (.bool true) ∧ Below w.heap.size w w' := by
  by_cases h : n ≤ 200 ∧ m ≤ 200
  · by_cases hz : n = 0 ∨ m = 0
    · exact vouters_none A B n m cp cq w h.1 h.2 hz
    · exact vouters_main A B n m cp cq xs ys w h.1 h.2 (by omega) (by omega) i0.1 i1.1 i0.2 i1.2
  · have AW := Lib.hid (fun W => awake4_any W)
    have T1 := Lib.hid (decide_eq_false h)
    clear h
    go_enter Try.func5, Try.ntmps5
    go_wp2_with (first
      | (go_at_call 13; refine (AW.out _).mono ?_; rintro e w1 ⟨rfl, hb1⟩; obtain ⟨hc1, hf1, hz1⟩ := bcell hb1; (try simp at hz1); (try have : w.heap.size < w1.heap.size := by omega); (try have : w.heap.size + 1 < w1.heap.size := by omega); (try have : w.heap.size + 1 + 1 < w1.heap.size := by omega); (try have : w.heap.size + 1 + 1 + 1 < w1.heap.size := by omega); (try have : g < w1.heap.size := by omega); (try have : ga < w1.heap.size := by omega); (try have : gb < w1.heap.size := by omega); (try have : gc < w1.heap.size := by omega); have hB : Below w.heap.size w w1 := (by repeat (first | (with_reducible exact Below.refl _ _) | (with_reducible assumption) | (with_reducible refine Below.drew ?_) | (with_reducible refine Below.alloc ?_ ?_ _) | (with_reducible refine Below.setCell ?_ ?_ _) | (with_reducible refine Below.trans ?_ (Below.mono hb ?_)) | (with_reducible refine Below.trans ?_ (Below.mono hb1 ?_)) | (with_reducible refine Below.trans ?_ (Below.mono hb2 ?_)) | (with_reducible refine Below.trans ?_ (Below.mono hb3 ?_)) | (with_reducible refine Below.trans ?_ (Below.mono hb4 ?_)) | (with_reducible refine Below.trans ?_ (Below.mono hb5 ?_)) | (with_reducible refine Below.trans ?_ (Below.mono hb6 ?_)) | (with_reducible refine Below.trans ?_ (Below.mono hb7 ?_)) | (with_reducible refine Below.trans ?_ (Below.mono hb8 ?_)) | (with_reducible refine Below.trans ?_ (Below.mono hb9 ?_)) | (focus (first | omega | (simp; done) | (simp; omega))) | exact hB)))
      | (go_at_call 14; refine (few4_two A B n m cp cq _ _ (by simp) (by simp)).mono ?_; rw [T1.out]; rintro e w2 ⟨rfl, rfl⟩))
    go_ret
    exact ⟨rfl, (by repeat (first | (with_reducible exact Below.refl _ _) | (with_reducible assumption) | (with_reducible refine Below.drew ?_) | (with_reducible refine Below.alloc ?_ ?_ _) | (with_reducible refine Below.setCell ?_ ?_ _) | (with_reducible refine Below.trans ?_ (Below.mono hb ?_)) | (with_reducible refine Below.trans ?_ (Below.mono hb1 ?_)) | (with_reducible refine Below.trans ?_ (Below.mono hb2 ?_)) | (with_reducible refine Below.trans ?_ (Below.mono hb3 ?_)) | (with_reducible refine Below.trans ?_ (Below.mono hb4 ?_)) | (with_reducible refine Below.trans ?_ (Below.mono hb5 ?_)) | (with_reducible refine Below.trans ?_ (Below.mono hb6 ?_)) | (with_reducible refine Below.trans ?_ (Below.mono hb7 ?_)) | (with_reducible refine Below.trans ?_ (Below.mono hb8 ?_)) | (with_reducible refine Below.trans ?_ (Below.mono hb9 ?_)) | (focus (first | omega | (simp; done) | (simp; omega))) | exact hB))⟩
end Go.Proofs.Ytikjomekhnkgcaa
