import Derived.Test.YtikjomekhnkgcaaE4
import Derived.Test.YtikjomekhnkgcaaRowF
/- The law VecSums, walked. -/
namespace Go.Proofs.Ytikjomekhnkgcaa
open Go.RowKit
attribute [local go_sem ↓] Go.wp_at_zero Go.wp_at_succ

theorem axpy_shape (A B : Option Addr) (n m cp cq : Nat) (U : Value) (k : Int) (w : World) {u : Option Nat} {c : Int} (hU : Unt w U u c) (hn : n ≤ 65536) (hm : m ≤ 65536) (h : n ≠ m) :
    Calls Try.prog 35 #[U, .int .i64 k, .slice A n cp, .slice B m cq] w fun e w' => e = .returned (.tuple #[.slice none 0 0, .int .i64 40]) ∧ Below w.heap.size w w' := by
  have PA := Lib.hid (fun W => pair_any A B n m cp cq W hn hm)
  rw [if_neg h] at PA
  obtain ⟨p, rfl⟩ := hU.ptr
  clear hU
  go_enter Try.func35, Try.ntmps35
  go_wp2_with (go_at_call 51; refine (PA.out _).mono ?_; rintro e w1 ⟨rfl, hb1⟩; obtain ⟨hc1, hf1, hz1⟩ := bcell hb1; (try simp at hz1); (try have : w.heap.size < w1.heap.size := by omega); (try have : w.heap.size + 1 < w1.heap.size := by omega); (try have : w.heap.size + 1 + 1 < w1.heap.size := by omega); (try have : w.heap.size + 1 + 1 + 1 < w1.heap.size := by omega); (try have : g < w1.heap.size := by omega); (try have : ga < w1.heap.size := by omega); (try have : gb < w1.heap.size := by omega); (try have : gc < w1.heap.size := by omega); have hB : Below w.heap.size w w1 := (by repeat (first | (with_reducible exact Below.refl _ _) | (with_reducible assumption) | (with_reducible refine Below.drew ?_) | (with_reducible refine Below.alloc ?_ ?_ _) | (with_reducible refine Below.setCell ?_ ?_ _) | (with_reducible refine Below.trans ?_ (Below.mono hb ?_)) | (with_reducible refine Below.trans ?_ (Below.mono hb1 ?_)) | (with_reducible refine Below.trans ?_ (Below.mono hb2 ?_)) | (with_reducible refine Below.trans ?_ (Below.mono hb3 ?_)) | (with_reducible refine Below.trans ?_ (Below.mono hb4 ?_)) | (with_reducible refine Below.trans ?_ (Below.mono hb5 ?_)) | (with_reducible refine Below.trans ?_ (Below.mono hb6 ?_)) | (with_reducible refine Below.trans ?_ (Below.mono hb7 ?_)) | (with_reducible refine Below.trans ?_ (Below.mono hb8 ?_)) | (with_reducible refine Below.trans ?_ (Below.mono hb9 ?_)) | (focus (first | omega | (simp; done) | (simp; omega))) | exact hB)))
  go_ret2
  exact ⟨rfl, (by repeat (first | (with_reducible exact Below.refl _ _) | (with_reducible assumption) | (with_reducible refine Below.drew ?_) | (with_reducible refine Below.alloc ?_ ?_ _) | (with_reducible refine Below.setCell ?_ ?_ _) | (with_reducible refine Below.trans ?_ (Below.mono hb ?_)) | (with_reducible refine Below.trans ?_ (Below.mono hb1 ?_)) | (with_reducible refine Below.trans ?_ (Below.mono hb2 ?_)) | (with_reducible refine Below.trans ?_ (Below.mono hb3 ?_)) | (with_reducible refine Below.trans ?_ (Below.mono hb4 ?_)) | (with_reducible refine Below.trans ?_ (Below.mono hb5 ?_)) | (with_reducible refine Below.trans ?_ (Below.mono hb6 ?_)) | (with_reducible refine Below.trans ?_ (Below.mono hb7 ?_)) | (with_reducible refine Below.trans ?_ (Below.mono hb8 ?_)) | (with_reducible refine Below.trans ?_ (Below.mono hb9 ?_)) | (focus (first | omega | (simp; done) | (simp; omega))) | exact hB))⟩
set_option maxHeartbeats 8000000 in
set_option maxRecDepth 100000 in
theorem vsums_eq (A B : Option Addr) (n cp cq : Nat) (xs ys : List Int) (k : Int) (w : World) (hn : n ≤ 200) (hA : Rd w none A n xs) (hB0 : Rd w none B n ys) (ha : All64 xs) (hb0 : All64 ys) (hk : In64 k) :
    Calls Try.prog 6 #[.slice A n cp, .slice B n cq, .int .i64 k] w fun e w' => e = .returned (.bool true) ∧ Below w.heap.size w w' := by
  have ca := cntI_bound (addV xs ys) n
  have cs := cntI_bound (subV xs ys) n
  have AW := Lib.hid (fun W => awake4_any W)
  have T1 := Lib.hid (decide_eq_true (show n ≤ 200 ∧ n ≤ 200 from ⟨hn, hn⟩))
  have HA := Lib.hid hA
  have HB := Lib.hid hB0
  have g6 : n ≤ 65536 := by omega
  have m1 : n < 1000000 := by omega
  have HK := Lib.hid hk
  have cb1 := cntI_bound (mulV k xs) n
  clear hA hB0 hk
  go_enter Try.func6, Try.ntmps6
  go_upto_region 6 with (first
    | (go_at_call 13; refine (AW.out _).mono ?_; rintro e w1 ⟨rfl, hb1⟩; obtain ⟨hc1, hf1, hz1⟩ := bcell hb1; (try simp at hz1); (try have : w.heap.size < w1.heap.size := by omega); (try have : w.heap.size + 1 < w1.heap.size := by omega); (try have : w.heap.size + 1 + 1 < w1.heap.size := by omega); (try have : w.heap.size + 1 + 1 + 1 < w1.heap.size := by omega); (try have : g < w1.heap.size := by omega); (try have : ga < w1.heap.size := by omega); (try have : gb < w1.heap.size := by omega); (try have : gc < w1.heap.size := by omega); have hB : Below w.heap.size w w1 := (by repeat (first | (with_reducible exact Below.refl _ _) | (with_reducible assumption) | (with_reducible refine Below.drew ?_) | (with_reducible refine Below.alloc ?_ ?_ _) | (with_reducible refine Below.setCell ?_ ?_ _) | (with_reducible refine Below.trans ?_ (Below.mono hb ?_)) | (with_reducible refine Below.trans ?_ (Below.mono hb1 ?_)) | (with_reducible refine Below.trans ?_ (Below.mono hb2 ?_)) | (with_reducible refine Below.trans ?_ (Below.mono hb3 ?_)) | (with_reducible refine Below.trans ?_ (Below.mono hb4 ?_)) | (with_reducible refine Below.trans ?_ (Below.mono hb5 ?_)) | (with_reducible refine Below.trans ?_ (Below.mono hb6 ?_)) | (with_reducible refine Below.trans ?_ (Below.mono hb7 ?_)) | (with_reducible refine Below.trans ?_ (Below.mono hb8 ?_)) | (with_reducible refine Below.trans ?_ (Below.mono hb9 ?_)) | (focus (first | omega | (simp; done) | (simp; omega))) | exact hB)))
    | (go_at_call 14; refine (few4_two A B n n cp cq _ _ (by simp) (by simp)).mono ?_; rw [T1.out]; rintro e w2 ⟨rfl, rfl⟩))
  refine at_world fun Wb hWb => ?_
  have tw : Two w Wb (w1.heap.size + 1) 0 := by
    subst hWb
    refine ⟨Unt.at_ ((Below.heap_alloc _ _ _ (by simp)).trans (newest_at _ _ (by simp))), newest_at _ _ (by simp), (by repeat (first | (with_reducible exact Below.refl _ _) | (with_reducible assumption) | (with_reducible refine Below.drew ?_) | (with_reducible refine Below.alloc ?_ ?_ _) | (with_reducible refine Below.setCell ?_ ?_ _) | (with_reducible refine Below.trans ?_ (Below.mono hb ?_)) | (with_reducible refine Below.trans ?_ (Below.mono hb1 ?_)) | (with_reducible refine Below.trans ?_ (Below.mono hb2 ?_)) | (with_reducible refine Below.trans ?_ (Below.mono hb3 ?_)) | (with_reducible refine Below.trans ?_ (Below.mono hb4 ?_)) | (with_reducible refine Below.trans ?_ (Below.mono hb5 ?_)) | (with_reducible refine Below.trans ?_ (Below.mono hb6 ?_)) | (with_reducible refine Below.trans ?_ (Below.mono hb7 ?_)) | (with_reducible refine Below.trans ?_ (Below.mono hb8 ?_)) | (with_reducible refine Below.trans ?_ (Below.mono hb9 ?_)) | (focus (first | omega | (simp; done) | (simp; omega))) | exact hB))⟩
  have hG : w.heap.size ≤ w1.heap.size + 1 := by omega
  clear hWb hb1 hc1 hf1 hB
  generalize w1.heap.size + 1 = G at *
  have hSw : ∀ g, SG G g → w.heap.size ≤ g := by rintro g (rfl | rfl) <;> omega
  have hSb : ∀ g, SG G g → g < Wb.heap.size := by
    rintro g (rfl | rfl)
    · exact tw.1.lt g rfl
    · exact tw.2.1.lt
  go_wp2_with fail
  refine (plain04_any A n cp xs _ m1 (HA.out.call tw.2.2)).mono ?_
  rintro e x1 ⟨V1, rfl, hO1, hb1⟩
  obtain ⟨D1, e1, rfl, rC⟩ := hO1.apart (S := SG G) HA.out.1 hSb
  have t1 := tw.call hb1
  clear tw hO1 hb1
  go_wp2_with fail
  refine (plain04_any B n cq ys _ m1 (HB.out.call t1.2.2)).mono ?_
  rintro e x2 ⟨V2, rfl, hO2, hb2⟩
  have hSc : ∀ g, SG G g → g < x1.heap.size := by
    rintro g (rfl | rfl)
    · exact t1.1.lt g rfl
    · exact t1.2.1.lt
  obtain ⟨D2, e2, rfl, rD⟩ := hO2.apart (S := SG G) HB.out.1 hSc
  have t2 := t1.call hb2
  have s0 : ST w x2 G 0 0 A n xs B n ys D1 D2 := ⟨⟨(HA.out.apart hSw).call t2.2.2, (HB.out.apart hSw).call t2.2.2, rC.call hb2, rD⟩, t2⟩
  clear t1 t2 hO2 hb2 rC rD hSb hSc hSw
  go_wp2_with fail
  refine (vscale_any A n cp xs (.pointer (some ⟨G, 0, none⟩)) (some G) 0 k _ HK.out ha g6 (s0.1.1.at_ (sgL G)) s0.2.1 (by omega) (by omega)).mono ?_
  rintro e y3 ⟨V, rfl, hO, hg, hU⟩
  obtain ⟨L3, f3, rfl, r3⟩ := hO.apart (S := SG G) (rowI_length _ _) s0.lt
  have s3 := s0.left hg hU hG
  clear s0 hO hg hU
  go_wp2_with fail
  refine (rscale_any D1 n e1 (G + 1) xs k 0 _ m1 ha HK.out (s3.1.2.2.1.at_ (sgR G)) s3.2.2.1 (by omega) (by omega)).mono ?_
  rintro e y4 ⟨V, rfl, hO, hg, hU⟩
  obtain ⟨L4, f4, rfl, r4⟩ := hO.apart (S := SG G) (rowI_length _ _) s3.lt
  have s4 := s3.right hg hU hG
  have r3b := r3.grow hg (sgR G)
  clear s3 hO hg hU r3
  go_wp2_with fail
  refine (like4_any L3 L4 n f3 f4 G (G + 1) _ _ _ m1 r3b.none_ r4.none_ s4.2.1 s4.2.2.1).mono ?_
  rintro e y5 ⟨rfl, hb⟩
  have s5 := s4.call hb
  clear s4 hb r3b r4
  have kn := cell_of_one s5.2.1.some_
  have kf := free_of_one s5.2.1.some_
  have km := cell_of_one s5.2.2.1
  have kg := free_of_one s5.2.2.1
  have l1 := s5.2.2.1.lt
  have l2 : G < y5.heap.size := by omega
  go_wp2_with (go_at_call 25; go_in)
  go_end0
  go_upto_region 12 with (fail)
  refine at_world fun Wn hWn => ?_
  have s6 : ST w Wn G 0 0 A n xs B n ys D1 D2 := by subst hWn; exact s5.nought hG
  clear hWn kn kf km kg l1 l2 s5
  go_wp2_with fail
  refine (rpair_any D1 D2 n n e1 e2 _ g6 g6).mono ?_
  rw [if_pos rfl]
  rintro e y7 ⟨rfl, hb⟩
  have s7 := s6.call hb
  clear s6 hb
  go_wp2_with fail
  refine (vadd_any A B n cp cq xs ys (.pointer (some ⟨G, 0, none⟩)) (some G) 0 _ ha hb0 g6 (s7.1.1.at_ (sgL G)) (s7.1.2.1.at_ (sgL G)) s7.2.1 (by omega) (by omega)).mono ?_
  rintro e y8 ⟨V, rfl, hO, hg, hU⟩
  obtain ⟨L8, f8, rfl, r8⟩ := hO.apart (S := SG G) (rowI_length _ _) s7.lt
  have s8 := s7.left hg hU hG
  clear s7 hO hg hU
  go_wp2_with fail
  refine (rplus_any D1 D2 n e1 e2 (G + 1) xs ys 0 _ m1 ha hb0 (s8.1.2.2.1.at_ (sgR G)) (s8.1.2.2.2.at_ (sgR G)) s8.2.2.1 (by omega) (by omega)).mono ?_
  rintro e y9 ⟨V, rfl, hO, hg, hU⟩
  obtain ⟨L9, f9, rfl, r9⟩ := hO.apart (S := SG G) (rowI_length _ _) s8.lt
  have s9 := s8.right hg hU hG
  have r8b := r8.grow hg (sgR G)
  clear s8 hO hg hU r8
  go_wp2_with fail
  refine (like4_any L8 L9 n f8 f9 G (G + 1) _ _ _ m1 r8b.none_ r9.none_ s9.2.1 s9.2.2.1).mono ?_
  rintro e y10 ⟨rfl, hb⟩
  have s10 := s9.call hb
  clear s9 hb r8b r9
  go_wp2_with fail
  refine (vsub_any A B n cp cq xs ys (.pointer (some ⟨G, 0, none⟩)) (some G) (0 + cntI (addV xs ys) n) _ ha hb0 g6 (s10.1.1.at_ (sgL G)) (s10.1.2.1.at_ (sgL G)) s10.2.1 (by omega) (by omega)).mono ?_
  rintro e y11 ⟨V, rfl, hO, hg, hU⟩
  obtain ⟨L11, f11, rfl, r11⟩ := hO.apart (S := SG G) (rowI_length _ _) s10.lt
  have s11 := s10.left hg hU hG
  clear s10 hO hg hU
  go_wp2_with fail
  refine (rdiff_any D1 D2 n e1 e2 (G + 1) xs ys (0 + cntI (addV xs ys) n) _ m1 ha hb0 (s11.1.2.2.1.at_ (sgR G)) (s11.1.2.2.2.at_ (sgR G)) s11.2.2.1 (by omega) (by omega)).mono ?_
  rintro e y12 ⟨V, rfl, hO, hg, hU⟩
  obtain ⟨L12, f12, rfl, r12⟩ := hO.apart (S := SG G) (rowI_length _ _) s11.lt
  have s12 := s11.right hg hU hG
  have r11b := r11.grow hg (sgR G)
  clear s11 hO hg hU r11
  go_wp2_with fail
  refine (like4_any L11 L12 n f11 f12 G (G + 1) _ _ _ m1 r11b.none_ r12.none_ s12.2.1 s12.2.2.1).mono ?_
  rintro e y13 ⟨rfl, hb⟩
  have s13 := s12.call hb
  clear s12 hb r11b r12
  go_wp2_with fail
  refine (axpy_any A B n cp cq xs ys (.pointer (some ⟨G, 0, none⟩)) (some G) (0 + cntI (addV xs ys) n + cntI (subV xs ys) n) k _ HK.out ha hb0 g6 (s13.1.1.at_ (sgL G)) (s13.1.2.1.at_ (sgL G)) s13.2.1 (by omega) (by omega)).mono ?_
  rintro e y14 ⟨V, rfl, hO, hg, hU⟩
  obtain ⟨L14, f14, rfl, r14⟩ := hO.apart (S := SG G) (rowI_length _ _) s13.lt
  have s14 := s13.left hg hU hG
  clear s13 hO hg hU
  go_wp2_with fail
  refine (raxpy_any D1 D2 n e1 e2 (G + 1) xs ys k (0 + cntI (addV xs ys) n + cntI (subV xs ys) n) _ m1 HK.out ha hb0 (s14.1.2.2.1.at_ (sgR G)) (s14.1.2.2.2.at_ (sgR G)) s14.2.2.1 (by omega) (by omega)).mono ?_
  rintro e y15 ⟨V, rfl, hO, hg, hU⟩
  obtain ⟨L15, f15, rfl, r15⟩ := hO.apart (S := SG G) (rowI_length _ _) s14.lt
  have s15 := s14.right hg hU hG
  have r14b := r14.grow hg (sgR G)
  clear s14 hO hg hU r14
  go_wp2_with fail
  refine (like4_any L14 L15 n f14 f15 G (G + 1) _ _ _ m1 r14b.none_ r15.none_ s15.2.1 s15.2.2.1).mono ?_
  rintro e y16 ⟨rfl, hb⟩
  have s16 := s15.call hb
  clear s15 hb r14b r15
  go_wp2_with fail
  go_ret
  exact ⟨rfl, s16.2.2.2⟩
set_option maxHeartbeats 8000000 in
set_option maxRecDepth 100000 in
theorem vsums_ne (A B : Option Addr) (n m cp cq : Nat) (xs ys : List Int) (k : Int) (w : World) (hn : n ≤ 200) (hm : m ≤ 200) (hA : Rd w none A n xs) (hB0 : Rd w none B m ys) (ha : All64 xs) (hk : In64 k) (hne : n ≠ m) :
    Calls Try.prog 6 #[.slice A n cp, .slice B m cq, .int .i64 k] w fun e w' => e = .returned (.bool true) ∧ Below w.heap.size w w' := by
  have AW := Lib.hid (fun W => awake4_any W)
  have T1 := Lib.hid (decide_eq_true (show n ≤ 200 ∧ m ≤ 200 from ⟨hn, hm⟩))
  have HA := Lib.hid hA
  have HB := Lib.hid hB0
  have g6 : n ≤ 65536 := by omega
  have g7 : m ≤ 65536 := by omega
  have m1 : n < 1000000 := by omega
  have m2 : m < 1000000 := by omega
  have HK := Lib.hid hk
  have cb1 := cntI_bound (mulV k xs) n
  clear hA hB0 hk
  go_enter Try.func6, Try.ntmps6
  go_upto_region 6 with (first
    | (go_at_call 13; refine (AW.out _).mono ?_; rintro e w1 ⟨rfl, hb1⟩; obtain ⟨hc1, hf1, hz1⟩ := bcell hb1; (try simp at hz1); (try have : w.heap.size < w1.heap.size := by omega); (try have : w.heap.size + 1 < w1.heap.size := by omega); (try have : w.heap.size + 1 + 1 < w1.heap.size := by omega); (try have : w.heap.size + 1 + 1 + 1 < w1.heap.size := by omega); (try have : g < w1.heap.size := by omega); (try have : ga < w1.heap.size := by omega); (try have : gb < w1.heap.size := by omega); (try have : gc < w1.heap.size := by omega); have hB : Below w.heap.size w w1 := (by repeat (first | (with_reducible exact Below.refl _ _) | (with_reducible assumption) | (with_reducible refine Below.drew ?_) | (with_reducible refine Below.alloc ?_ ?_ _) | (with_reducible refine Below.setCell ?_ ?_ _) | (with_reducible refine Below.trans ?_ (Below.mono hb ?_)) | (with_reducible refine Below.trans ?_ (Below.mono hb1 ?_)) | (with_reducible refine Below.trans ?_ (Below.mono hb2 ?_)) | (with_reducible refine Below.trans ?_ (Below.mono hb3 ?_)) | (with_reducible refine Below.trans ?_ (Below.mono hb4 ?_)) | (with_reducible refine Below.trans ?_ (Below.mono hb5 ?_)) | (with_reducible refine Below.trans ?_ (Below.mono hb6 ?_)) | (with_reducible refine Below.trans ?_ (Below.mono hb7 ?_)) | (with_reducible refine Below.trans ?_ (Below.mono hb8 ?_)) | (with_reducible refine Below.trans ?_ (Below.mono hb9 ?_)) | (focus (first | omega | (simp; done) | (simp; omega))) | exact hB)))
    | (go_at_call 14; refine (few4_two A B n m cp cq _ _ (by simp) (by simp)).mono ?_; rw [T1.out]; rintro e w2 ⟨rfl, rfl⟩))
  refine at_world fun Wb hWb => ?_
  have tw : Two w Wb (w1.heap.size + 1) 0 := by
    subst hWb
    refine ⟨Unt.at_ ((Below.heap_alloc _ _ _ (by simp)).trans (newest_at _ _ (by simp))), newest_at _ _ (by simp), (by repeat (first | (with_reducible exact Below.refl _ _) | (with_reducible assumption) | (with_reducible refine Below.drew ?_) | (with_reducible refine Below.alloc ?_ ?_ _) | (with_reducible refine Below.setCell ?_ ?_ _) | (with_reducible refine Below.trans ?_ (Below.mono hb ?_)) | (with_reducible refine Below.trans ?_ (Below.mono hb1 ?_)) | (with_reducible refine Below.trans ?_ (Below.mono hb2 ?_)) | (with_reducible refine Below.trans ?_ (Below.mono hb3 ?_)) | (with_reducible refine Below.trans ?_ (Below.mono hb4 ?_)) | (with_reducible refine Below.trans ?_ (Below.mono hb5 ?_)) | (with_reducible refine Below.trans ?_ (Below.mono hb6 ?_)) | (with_reducible refine Below.trans ?_ (Below.mono hb7 ?_)) | (with_reducible refine Below.trans ?_ (Below.mono hb8 ?_)) | (with_reducible refine Below.trans ?_ (Below.mono hb9 ?_)) | (focus (first | omega | (simp; done) | (simp; omega))) | exact hB))⟩
  have hG : w.heap.size ≤ w1.heap.size + 1 := by omega
  clear hWb hb1 hc1 hf1 hB
  generalize w1.heap.size + 1 = G at *
  have hSw : ∀ g, SG G g → w.heap.size ≤ g := by rintro g (rfl | rfl) <;> omega
  have hSb : ∀ g, SG G g → g < Wb.heap.size := by
    rintro g (rfl | rfl)
    · exact tw.1.lt g rfl
    · exact tw.2.1.lt
  go_wp2_with fail
  refine (plain04_any A n cp xs _ m1 (HA.out.call tw.2.2)).mono ?_
  rintro e x1 ⟨V1, rfl, hO1, hb1⟩
  obtain ⟨D1, e1, rfl, rC⟩ := hO1.apart (S := SG G) HA.out.1 hSb
  have t1 := tw.call hb1
  clear tw hO1 hb1
  go_wp2_with fail
  refine (plain04_any B m cq ys _ m2 (HB.out.call t1.2.2)).mono ?_
  rintro e x2 ⟨V2, rfl, hO2, hb2⟩
  have hSc : ∀ g, SG G g → g < x1.heap.size := by
    rintro g (rfl | rfl)
    · exact t1.1.lt g rfl
    · exact t1.2.1.lt
  obtain ⟨D2, e2, rfl, rD⟩ := hO2.apart (S := SG G) HB.out.1 hSc
  have t2 := t1.call hb2
  have s0 : ST w x2 G 0 0 A n xs B m ys D1 D2 := ⟨⟨(HA.out.apart hSw).call t2.2.2, (HB.out.apart hSw).call t2.2.2, rC.call hb2, rD⟩, t2⟩
  clear t1 t2 hO2 hb2 rC rD hSb hSc hSw
  go_wp2_with fail
  refine (vscale_any A n cp xs (.pointer (some ⟨G, 0, none⟩)) (some G) 0 k _ HK.out ha g6 (s0.1.1.at_ (sgL G)) s0.2.1 (by omega) (by omega)).mono ?_
  rintro e y3 ⟨V, rfl, hO, hg, hU⟩
  obtain ⟨L3, f3, rfl, r3⟩ := hO.apart (S := SG G) (rowI_length _ _) s0.lt
  have s3 := s0.left hg hU hG
  clear s0 hO hg hU
  go_wp2_with fail
  refine (rscale_any D1 n e1 (G + 1) xs k 0 _ m1 ha HK.out (s3.1.2.2.1.at_ (sgR G)) s3.2.2.1 (by omega) (by omega)).mono ?_
  rintro e y4 ⟨V, rfl, hO, hg, hU⟩
  obtain ⟨L4, f4, rfl, r4⟩ := hO.apart (S := SG G) (rowI_length _ _) s3.lt
  have s4 := s3.right hg hU hG
  have r3b := r3.grow hg (sgR G)
  clear s3 hO hg hU r3
  go_wp2_with fail
  refine (like4_any L3 L4 n f3 f4 G (G + 1) _ _ _ m1 r3b.none_ r4.none_ s4.2.1 s4.2.2.1).mono ?_
  rintro e y5 ⟨rfl, hb⟩
  have s5 := s4.call hb
  clear s4 hb r3b r4
  have kn := cell_of_one s5.2.1.some_
  have kf := free_of_one s5.2.1.some_
  have km := cell_of_one s5.2.2.1
  have kg := free_of_one s5.2.2.1
  have l1 := s5.2.2.1.lt
  have l2 : G < y5.heap.size := by omega
  go_wp2_with (go_at_call 25; go_in)
  go_end0
  go_upto_region 12 with (fail)
  refine at_world fun Wn hWn => ?_
  have s6 : ST w Wn G 0 0 A n xs B m ys D1 D2 := by subst hWn; exact s5.nought hG
  clear hWn kn kf km kg l1 l2 s5
  go_wp2_with fail
  refine (rpair_any D1 D2 n m e1 e2 _ g6 g7).mono ?_
  rw [if_neg hne]
  rintro e y7 ⟨rfl, hb⟩
  have s7 := s6.call hb
  clear s6 hb
  go_wp2_with fail
  refine (vadd_shape A B n m cp cq _ _ g6 g7 hne).mono ?_
  rintro e y8 ⟨rfl, hb⟩
  have s8 := s7.call hb
  clear s7 hb
  go_wp2_with fail
  refine (vsub_shape A B n m cp cq _ _ g6 g7 hne).mono ?_
  rintro e y9 ⟨rfl, hb⟩
  have s9 := s8.call hb
  clear s8 hb
  go_wp2_with fail
  refine (axpy_shape A B n m cp cq _ k _ s9.2.1 g6 g7 hne).mono ?_
  rintro e y10 ⟨rfl, hb⟩
  have s10 := s9.call hb
  clear s9 hb
  go_wp2_with fail
  refine (refused4_any none 0 G 40 _ s10.2.1).mono ?_
  rintro e y11 ⟨rfl, hb⟩
  have s11 := s10.call hb
  clear s10 hb
  go_wp2_with fail
  refine (refused4_any none 0 G 40 _ s11.2.1).mono ?_
  rintro e y12 ⟨rfl, hb⟩
  have s12 := s11.call hb
  clear s11 hb
  go_wp2_with fail
  refine (refused4_any none 0 G 40 _ s12.2.1).mono ?_
  rintro e y13 ⟨rfl, hb⟩
  have s13 := s12.call hb
  clear s12 hb
  go_wp2_with fail
  go_ret
  exact ⟨rfl, s13.2.2.2⟩
theorem vecSums_walk (A : Option Addr) (n cp : Nat) (xs : List Int) (B : Option Addr) (m cq : Nat) (ys : List Int) (k : Int) (w : World) (i0 : Row64 w A n xs) (i1 : Row64 w B m ys) (i2 : In64 k) :
    Calls Try.prog 6 #[.slice A n cp, .slice B m cq, .int .i64 k] w fun e w' => e = .returned (.bool true) ∧ Below w.heap.size w w' := by
  by_cases h : n ≤ 200 ∧ m ≤ 200
  · by_cases hne : n = m
    · subst hne
      exact vsums_eq A B n cp cq xs ys k w h.1 i0.1 i1.1 i0.2 i1.2 i2
    · exact vsums_ne A B n m cp cq xs ys k w h.1 h.2 i0.1 i1.1 i0.2 i2 hne
  · have AW := Lib.hid (fun W => awake4_any W)
    have T1 := Lib.hid (decide_eq_false h)
    clear h
    go_enter Try.func6, Try.ntmps6
    go_wp2_with (first
      | (go_at_call 13; refine (AW.out _).mono ?_; rintro e w1 ⟨rfl, hb1⟩; obtain ⟨hc1, hf1, hz1⟩ := bcell hb1; (try simp at hz1); (try have : w.heap.size < w1.heap.size := by omega); (try have : w.heap.size + 1 < w1.heap.size := by omega); (try have : w.heap.size + 1 + 1 < w1.heap.size := by omega); (try have : w.heap.size + 1 + 1 + 1 < w1.heap.size := by omega); (try have : g < w1.heap.size := by omega); (try have : ga < w1.heap.size := by omega); (try have : gb < w1.heap.size := by omega); (try have : gc < w1.heap.size := by omega); have hB : Below w.heap.size w w1 := (by repeat (first | (with_reducible exact Below.refl _ _) | (with_reducible assumption) | (with_reducible refine Below.drew ?_) | (with_reducible refine Below.alloc ?_ ?_ _) | (with_reducible refine Below.setCell ?_ ?_ _) | (with_reducible refine Below.trans ?_ (Below.mono hb ?_)) | (with_reducible refine Below.trans ?_ (Below.mono hb1 ?_)) | (with_reducible refine Below.trans ?_ (Below.mono hb2 ?_)) | (with_reducible refine Below.trans ?_ (Below.mono hb3 ?_)) | (with_reducible refine Below.trans ?_ (Below.mono hb4 ?_)) | (with_reducible refine Below.trans ?_ (Below.mono hb5 ?_)) | (with_reducible refine Below.trans ?_ (Below.mono hb6 ?_)) | (with_reducible refine Below.trans ?_ (Below.mono hb7 ?_)) | (with_reducible refine Below.trans ?_ (Below.mono hb8 ?_)) | (with_reducible refine Below.trans ?_ (Below.mono hb9 ?_)) | (focus (first | omega | (simp; done) | (simp; omega))) | exact hB)))
      | (go_at_call 14; refine (few4_two A B n m cp cq _ _ (by simp) (by simp)).mono ?_; rw [T1.out]; rintro e w2 ⟨rfl, rfl⟩))
    go_ret
    exact ⟨rfl, (by repeat (first | (with_reducible exact Below.refl _ _) | (with_reducible assumption) | (with_reducible refine Below.drew ?_) | (with_reducible refine Below.alloc ?_ ?_ _) | (with_reducible refine Below.setCell ?_ ?_ _) | (with_reducible refine Below.trans ?_ (Below.mono hb ?_)) | (with_reducible refine Below.trans ?_ (Below.mono hb1 ?_)) | (with_reducible refine Below.trans ?_ (Below.mono hb2 ?_)) | (with_reducible refine Below.trans ?_ (Below.mono hb3 ?_)) | (with_reducible refine Below.trans ?_ (Below.mono hb4 ?_)) | (with_reducible refine Below.trans ?_ (Below.mono hb5 ?_)) | (with_reducible refine Below.trans ?_ (Below.mono hb6 ?_)) | (with_reducible refine Below.trans ?_ (Below.mono hb7 ?_)) | (with_reducible refine Below.trans ?_ (Below.mono hb8 ?_)) | (with_reducible refine Below.trans ?_ (Below.mono hb9 ?_)) | (focus (first | omega | (simp; done) | (simp; omega))) | exact hB))⟩
end Go.Proofs.Ytikjomekhnkgcaa
