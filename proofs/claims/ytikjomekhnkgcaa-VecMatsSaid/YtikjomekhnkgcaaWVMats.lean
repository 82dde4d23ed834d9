import Derived.Test.YtikjomekhnkgcaaE7
import Derived.Test.YtikjomekhnkgcaaRowM
import Derived.Test.YtikjomekhnkgcaaRowF
/- The law VecMats, walked. -/
namespace Go.Proofs.Ytikjomekhnkgcaa
open Go.RowKit
attribute [local go_sem ↓] Go.wp_at_zero Go.wp_at_succ

set_option maxHeartbeats 8000000 in
set_option maxRecDepth 100000 in
theorem vmats_no (r c : Int) (A B : Option Addr) (n cp m cq : Nat) (az xs : List Int) (w : World) (hn : n ≤ 200) (hm : m ≤ 200) (hA : Rd w none A n az) (hB0 : Rd w none B m xs) (_ha : All64 az) (_hx : All64 xs) (hM : ¬ MatOk r c n) (hp1 : ¬ (MatOk r c n ∧ (m : Int) = (c : Int))) (hp2 : ¬ (MatOk r c n ∧ (m : Int) = (r : Int))) :
    Calls Try.prog 4 #[.agg #[.int .i64 r, .int .i64 c, .slice A n cp], .slice B m cq] w fun e w' => e = .returned (.bool true) ∧ Below w.heap.size w w' := by
  have AW := Lib.hid (fun W => awake4_any W)
  have T1 := Lib.hid (decide_eq_true (show n ≤ 200 ∧ m ≤ 200 from ⟨hn, hm⟩))
  have HA := Lib.hid hA
  have HB := Lib.hid hB0
  have m1 : n < 1000000 := by omega
  have m2 : m < 1000000 := by omega
  have g7 : m ≤ 65536 := by omega
  have HM := Lib.hid hM
  clear hA hB0 hM
  go_enter Try.func4, Try.ntmps4
  go_upto_region 5 with (first
    | (go_at_call 13; refine (AW.out _).mono ?_; rintro e w1 ⟨rfl, hb1⟩; obtain ⟨hc1, hf1, hz1⟩ := bcell hb1; (try simp at hz1); (try have : w.heap.size < w1.heap.size := by omega); (try have : w.heap.size + 1 < w1.heap.size := by omega); (try have : w.heap.size + 1 + 1 < w1.heap.size := by omega); (try have : w.heap.size + 1 + 1 + 1 < w1.heap.size := by omega); (try have : g < w1.heap.size := by omega); (try have : ga < w1.heap.size := by omega); (try have : gb < w1.heap.size := by omega); (try have : gc < w1.heap.size := by omega); have hB : Below w.heap.size w w1 := (by repeat (first | (with_reducible exact Below.refl _ _) | (with_reducible assumption) | (with_reducible refine Below.drew ?_) | (with_reducible refine Below.alloc ?_ ?_ _) | (with_reducible refine Below.setCell ?_ ?_ _) | (with_reducible refine Below.trans ?_ (Below.mono hb ?_)) | (with_reducible refine Below.trans ?_ (Below.mono hb1 ?_)) | (with_reducible refine Below.trans ?_ (Below.mono hb2 ?_)) | (with_reducible refine Below.trans ?_ (Below.mono hb3 ?_)) | (with_reducible refine Below.trans ?_ (Below.mono hb4 ?_)) | (with_reducible refine Below.trans ?_ (Below.mono hb5 ?_)) | (with_reducible refine Below.trans ?_ (Below.mono hb6 ?_)) | (with_reducible refine Below.trans ?_ (Below.mono hb7 ?_)) | (with_reducible refine Below.trans ?_ (Below.mono hb8 ?_)) | (with_reducible refine Below.trans ?_ (Below.mono hb9 ?_)) | (focus (first | omega | (simp; done) | (simp; omega))) | exact hB)))
    | (go_at_call 14; refine (few4_two A B n m cp cq _ _ (by simp) (by simp)).mono ?_; rw [T1.out]; rintro e w2 ⟨rfl, rfl⟩))
  have bM0 : w1.heap[w.heap.size]? = some (.cells #[.int .i64 r, .int .i64 c, .slice A n cp] 24 (0, 0)) := hp_call (heap_alloc_new w _) hb1
  go_upto_region 6 with (fail)
  refine at_world fun Wb hWb => ?_
  have tw : Two w Wb (w1.heap.size + 1) 0 := by
    subst hWb
    refine ⟨Unt.at_ ((Below.heap_alloc _ _ _ (by simp)).trans (newest_at _ _ (by simp))), newest_at _ _ (by simp), (by repeat (first | (with_reducible exact Below.refl _ _) | (with_reducible assumption) | (with_reducible refine Below.drew ?_) | (with_reducible refine Below.alloc ?_ ?_ _) | (with_reducible refine Below.setCell ?_ ?_ _) | (with_reducible refine Below.trans ?_ (Below.mono hb ?_)) | (with_reducible refine Below.trans ?_ (Below.mono hb1 ?_)) | (with_reducible refine Below.trans ?_ (Below.mono hb2 ?_)) | (with_reducible refine Below.trans ?_ (Below.mono hb3 ?_)) | (with_reducible refine Below.trans ?_ (Below.mono hb4 ?_)) | (with_reducible refine Below.trans ?_ (Below.mono hb5 ?_)) | (with_reducible refine Below.trans ?_ (Below.mono hb6 ?_)) | (with_reducible refine Below.trans ?_ (Below.mono hb7 ?_)) | (with_reducible refine Below.trans ?_ (Below.mono hb8 ?_)) | (with_reducible refine Below.trans ?_ (Below.mono hb9 ?_)) | (focus (first | omega | (simp; done) | (simp; omega))) | exact hB))⟩
  have bM1 : Wb.heap[w.heap.size]? = some (.cells #[.int .i64 r, .int .i64 c, .slice A n cp] 24 (0, 0)) := by subst hWb; exact hp_alloc (hp_alloc (hp_alloc bM0 _) _) _
  have hG : w.heap.size < w1.heap.size + 1 := by have := lt_of_block bM0; omega
  clear hWb hb1 hc1 hf1 hB bM0
  generalize w1.heap.size + 1 = G at *
  have hSw : ∀ g, SG G g → w.heap.size ≤ g := by rintro g (rfl | rfl) <;> omega
  have hSb : ∀ g, SG G g → g < Wb.heap.size := by
    rintro g (rfl | rfl)
    · exact tw.1.lt g rfl
    · exact tw.2.1.lt
  have p0 := cell_of_row Wb _ 0 _ _ _ bM1
  have p1 := cell_of_row Wb _ 1 _ _ _ bM1
  have p2 := cell_of_row Wb _ 2 _ _ _ bM1
  have lp := lt_of_block bM1
  simp only [List.getElem?_toArray, List.getElem?_cons_zero, List.getElem?_cons_succ] at p0 p1 p2
  go_upto_region 7 with (go_at_call 19; refine (mat4_any r c A n cp az _ m1 (HA.out.call tw.2.2)).mono ?_; rintro e x1 ⟨D, d, rfl, hnd, hO1, hb1⟩)
  refine at_world fun Wm hWm => ?_
  have BWm : Below x1.heap.size x1 Wm := by subst hWm; exact (Below.refl _ _).alloc (Nat.le_refl _) _
  have bN : Wm.heap[x1.heap.size]? = some (.cells #[.int .i64 r, .int .i64 c, .slice D n d] 46 (0, 0)) := by subst hWm; exact heap_alloc_new x1 _
  have zx := hb1.size
  have rD := (OwnI.offS hO1 HA.out.1 (SG G) (fun g h => .inl (hSb g h))).call BWm
  have hb2 : Below Wb.heap.size Wb Wm := hb1.trans (BWm.mono zx)
  have t2 := tw.call hb2
  have rA2 := (HA.out.apart hSw).call t2.2.2
  have rB2 := (HB.out.apart hSw).call t2.2.2
  have s0 : MT w Wm G x1.heap.size r c A n cp az D d B m xs 0 0 := ⟨⟨⟨rA2, rB2, rD, rB2⟩, t2⟩, hp_call bM1 hb2, bN, by have := hSb _ (sgL G); omega, by have := hSb _ (sgR G); omega, hG⟩
  clear hWm BWm bN hO1 hb1 hb2 tw t2 rA2 rB2 rD hSb hSw bM1 zx p0 p1 p2 lp
  generalize x1.heap.size = N at *
  obtain ⟨⟨p0, p1, p2, lp⟩, ⟨q0, q1, q2, lq⟩⟩ := s0.cells
  have k0 := pack_cell p0 lp
  have k1 := pack_cell p1 lp
  have k2 := pack_cell p2 lp
  have j0 := pack_cell q0 lq
  have j1 := pack_cell q1 lq
  have j2 := pack_cell q2 lq
  clear p0 p1 p2 lp q0 q1 q2 lq
  refine wp_region_pack (by kernel_rfl) (by kernel_rfl) ?_
  repeat (first | go_big_quiet_skip | (go_big_quiet_want; go_big_quiet_op; first | go_big_quiet_on | (apply Exists.intro; refine ⟨fun npk => ?_, ?_⟩; (focus (first | (go_at_call 15; exact pack_call (vright_no r c A n cp _ HM.out)) | (go_at_call 20; exact pack_call (rright_no r c D n d _ HM.out)))); go_big_quiet_on)))
  refine wpQuiet_nil ?_
  intro nq
  have s1 := s0.call nq.ok
  clear k0 k1 k2 j0 j1 j2 s0
  generalize nq.w = W1 at *
  obtain ⟨⟨p0, p1, p2, lp⟩, ⟨q0, q1, q2, lq⟩⟩ := s1.cells
  go_wp2_with fail
  refine (matvec_no (.pointer (some ⟨G, 0, none⟩)) r c A B n m cp cq _ g7 hp1).mono ?_
  rintro e y2 ⟨rfl, hb⟩
  have s2 := s1.call hb
  clear s1 hb
  clear p0 p1 p2 lp q0 q1 q2 lq
  obtain ⟨⟨p0, p1, p2, lp⟩, ⟨q0, q1, q2, lq⟩⟩ := s2.cells
  go_wp2_with fail
  refine (rright_no r c D n d _ HM.out).mono ?_
  rintro e y3 ⟨rfl, hb⟩
  have s3 := s2.call hb
  clear s2 hb
  clear p0 p1 p2 lp q0 q1 q2 lq
  obtain ⟨⟨p0, p1, p2, lp⟩, ⟨q0, q1, q2, lq⟩⟩ := s3.cells
  go_upto_region 15 with (go_at_call 21; refine (refused4_any none 0 G 40 _ s3.1.2.1).mono ?_; rintro e y4 ⟨rfl, hb⟩)
  have s4 := s3.call hb
  clear s3 hb
  clear p0 p1 p2 lp q0 q1 q2 lq
  have kn := cell_of_one s4.1.2.1.some_
  have kf := free_of_one s4.1.2.1.some_
  have km := cell_of_one s4.1.2.2.1
  have kg := free_of_one s4.1.2.2.1
  have l1 := s4.1.2.2.1.lt
  have l2 := s4.1.2.1.lt G rfl
  go_wp2_with (go_at_call 25; go_in)
  go_end0
  go_upto_region 17 with (fail)
  refine at_world fun Wn hWn => ?_
  have s5 : MT w Wn G N r c A n cp az D d B m xs 0 0 := by subst hWn; exact s4.nought
  clear hWn kn kf km kg l1 l2 s4
  obtain ⟨⟨p0, p1, p2, lp⟩, ⟨q0, q1, q2, lq⟩⟩ := s5.cells
  go_wp2_with fail
  refine (vecmat_no (.pointer (some ⟨G, 0, none⟩)) r c A B n m cp cq _ g7 hp2).mono ?_
  rintro e y6 ⟨rfl, hb⟩
  have s6 := s5.call hb
  clear s5 hb
  clear p0 p1 p2 lp q0 q1 q2 lq
  obtain ⟨⟨p0, p1, p2, lp⟩, ⟨q0, q1, q2, lq⟩⟩ := s6.cells
  go_wp2_with fail
  refine (rright_no r c D n d _ HM.out).mono ?_
  rintro e y7 ⟨rfl, hb⟩
  have s7 := s6.call hb
  clear s6 hb
  clear p0 p1 p2 lp q0 q1 q2 lq
  obtain ⟨⟨p0, p1, p2, lp⟩, ⟨q0, q1, q2, lq⟩⟩ := s7.cells
  go_wp2_with (go_at_call 21; refine (refused4_any none 0 G 40 _ s7.1.2.1).mono ?_; rintro e y8 ⟨rfl, hb⟩)
  go_ret
  exact ⟨rfl, (s7.call hb).1.2.2.2⟩
set_option maxHeartbeats 8000000 in
set_option maxRecDepth 100000 in
theorem vmats_ff (r c : Nat) (A B : Option Addr) (n cp m cq : Nat) (az xs : List Int) (w : World) (hn : n ≤ 200) (hm : m ≤ 200) (hA : Rd w none A n az) (hB0 : Rd w none B m xs) (_ha : All64 az) (_hx : All64 xs) (hM : MatOk r c n) (hp1 : ¬ (MatOk r c n ∧ (m : Int) = (c : Int))) (hp2 : ¬ (MatOk r c n ∧ (m : Int) = (r : Int))) :
    Calls Try.prog 4 #[.agg #[.int .i64 r, .int .i64 c, .slice A n cp], .slice B m cq] w fun e w' => e = .returned (.bool true) ∧ Below w.heap.size w w' := by
  have hnz : 0 < n := by
    obtain ⟨a1, a2, _, _, _, a6⟩ := hM
    have := Int.mul_le_mul a1 a2 (by omega) (by omega)
    omega
  have e1 : ((m : Int) != (c : Int)) = true := by simp only [bne_iff_ne]; exact fun e => hp1 ⟨hM, e⟩
  have e2 : ((m : Int) != (r : Int)) = true := by simp only [bne_iff_ne]; exact fun e => hp2 ⟨hM, e⟩
  have hrb : r ≤ 65536 := by have := hM.2.2.1; omega
  have hcb : c ≤ 65536 := by have := hM.2.2.2.1; omega
  have AW := Lib.hid (fun W => awake4_any W)
  have T1 := Lib.hid (decide_eq_true (show n ≤ 200 ∧ m ≤ 200 from ⟨hn, hm⟩))
  have HA := Lib.hid hA
  have HB := Lib.hid hB0
  have m1 : n < 1000000 := by omega
  have m2 : m < 1000000 := by omega
  have g7 : m ≤ 65536 := by omega
  have HM := Lib.hid hM
  clear hA hB0 hM
  go_enter Try.func4, Try.ntmps4
  go_upto_region 5 with (first
    | (go_at_call 13; refine (AW.out _).mono ?_; rintro e w1 ⟨rfl, hb1⟩; obtain ⟨hc1, hf1, hz1⟩ := bcell hb1; (try simp at hz1); (try have : w.heap.size < w1.heap.size := by omega); (try have : w.heap.size + 1 < w1.heap.size := by omega); (try have : w.heap.size + 1 + 1 < w1.heap.size := by omega); (try have : w.heap.size + 1 + 1 + 1 < w1.heap.size := by omega); (try have : g < w1.heap.size := by omega); (try have : ga < w1.heap.size := by omega); (try have : gb < w1.heap.size := by omega); (try have : gc < w1.heap.size := by omega); have hB : Below w.heap.size w w1 := (by repeat (first | (with_reducible exact Below.refl _ _) | (with_reducible assumption) | (with_reducible refine Below.drew ?_) | (with_reducible refine Below.alloc ?_ ?_ _) | (with_reducible refine Below.setCell ?_ ?_ _) | (with_reducible refine Below.trans ?_ (Below.mono hb ?_)) | (with_reducible refine Below.trans ?_ (Below.mono hb1 ?_)) | (with_reducible refine Below.trans ?_ (Below.mono hb2 ?_)) | (with_reducible refine Below.trans ?_ (Below.mono hb3 ?_)) | (with_reducible refine Below.trans ?_ (Below.mono hb4 ?_)) | (with_reducible refine Below.trans ?_ (Below.mono hb5 ?_)) | (with_reducible refine Below.trans ?_ (Below.mono hb6 ?_)) | (with_reducible refine Below.trans ?_ (Below.mono hb7 ?_)) | (with_reducible refine Below.trans ?_ (Below.mono hb8 ?_)) | (with_reducible refine Below.trans ?_ (Below.mono hb9 ?_)) | (focus (first | omega | (simp; done) | (simp; omega))) | exact hB)))
    | (go_at_call 14; refine (few4_two A B n m cp cq _ _ (by simp) (by simp)).mono ?_; rw [T1.out]; rintro e w2 ⟨rfl, rfl⟩))
  have bM0 : w1.heap[w.heap.size]? = some (.cells #[.int .i64 r, .int .i64 c, .slice A n cp] 24 (0, 0)) := hp_call (heap_alloc_new w _) hb1
  go_upto_region 6 with (fail)
  refine at_world fun Wb hWb => ?_
  have tw : Two w Wb (w1.heap.size + 1) 0 := by
    subst hWb
    refine ⟨Unt.at_ ((Below.heap_alloc _ _ _ (by simp)).trans (newest_at _ _ (by simp))), newest_at _ _ (by simp), (by repeat (first | (with_reducible exact Below.refl _ _) | (with_reducible assumption) | (with_reducible refine Below.drew ?_) | (with_reducible refine Below.alloc ?_ ?_ _) | (with_reducible refine Below.setCell ?_ ?_ _) | (with_reducible refine Below.trans ?_ (Below.mono hb ?_)) | (with_reducible refine Below.trans ?_ (Below.mono hb1 ?_)) | (with_reducible refine Below.trans ?_ (Below.mono hb2 ?_)) | (with_reducible refine Below.trans ?_ (Below.mono hb3 ?_)) | (with_reducible refine Below.trans ?_ (Below.mono hb4 ?_)) | (with_reducible refine Below.trans ?_ (Below.mono hb5 ?_)) | (with_reducible refine Below.trans ?_ (Below.mono hb6 ?_)) | (with_reducible refine Below.trans ?_ (Below.mono hb7 ?_)) | (with_reducible refine Below.trans ?_ (Below.mono hb8 ?_)) | (with_reducible refine Below.trans ?_ (Below.mono hb9 ?_)) | (focus (first | omega | (simp; done) | (simp; omega))) | exact hB))⟩
  have bM1 : Wb.heap[w.heap.size]? = some (.cells #[.int .i64 r, .int .i64 c, .slice A n cp] 24 (0, 0)) := by subst hWb; exact hp_alloc (hp_alloc (hp_alloc bM0 _) _) _
  have hG : w.heap.size < w1.heap.size + 1 := by have := lt_of_block bM0; omega
  clear hWb hb1 hc1 hf1 hB bM0
  generalize w1.heap.size + 1 = G at *
  have hSw : ∀ g, SG G g → w.heap.size ≤ g := by rintro g (rfl | rfl) <;> omega
  have hSb : ∀ g, SG G g → g < Wb.heap.size := by
    rintro g (rfl | rfl)
    · exact tw.1.lt g rfl
    · exact tw.2.1.lt
  have p0 := cell_of_row Wb _ 0 _ _ _ bM1
  have p1 := cell_of_row Wb _ 1 _ _ _ bM1
  have p2 := cell_of_row Wb _ 2 _ _ _ bM1
  have lp := lt_of_block bM1
  simp only [List.getElem?_toArray, List.getElem?_cons_zero, List.getElem?_cons_succ] at p0 p1 p2
  go_upto_region 7 with (go_at_call 19; refine (mat4_any r c A n cp az _ m1 (HA.out.call tw.2.2)).mono ?_; rintro e x1 ⟨D, d, rfl, hnd, hO1, hb1⟩)
  refine at_world fun Wm hWm => ?_
  have BWm : Below x1.heap.size x1 Wm := by subst hWm; exact (Below.refl _ _).alloc (Nat.le_refl _) _
  have bN : Wm.heap[x1.heap.size]? = some (.cells #[.int .i64 r, .int .i64 c, .slice D n d] 46 (0, 0)) := by subst hWm; exact heap_alloc_new x1 _
  have zx := hb1.size
  obtain ⟨bD, oD, rfl, _⟩ : ∃ bD oD, D = some ⟨bD, oD, none⟩ ∧ True := by
    obtain ⟨A9, c9, e9, r9⟩ := hO1.lenW HA.out.1
    obtain ⟨b9, o9, e8, _⟩ := r9.2 hnz
    simp only [Value.slice.injEq] at e9
    exact ⟨b9, o9, e9.1.trans e8, trivial⟩
  have rD := (OwnI.offS hO1 HA.out.1 (SG G) (fun g h => .inl (hSb g h))).call BWm
  have hb2 : Below Wb.heap.size Wb Wm := hb1.trans (BWm.mono zx)
  have t2 := tw.call hb2
  have rA2 := (HA.out.apart hSw).call t2.2.2
  have rB2 := (HB.out.apart hSw).call t2.2.2
  have s0 : MT w Wm G x1.heap.size r c A n cp az (some ⟨bD, oD, none⟩) d B m xs 0 0 := ⟨⟨⟨rA2, rB2, rD, rB2⟩, t2⟩, hp_call bM1 hb2, bN, by have := hSb _ (sgL G); omega, by have := hSb _ (sgR G); omega, hG⟩
  clear hWm BWm bN hO1 hb1 hb2 tw t2 rA2 rB2 rD hSb hSw bM1 zx p0 p1 p2 lp
  generalize x1.heap.size = N at *
  obtain ⟨⟨p0, p1, p2, lp⟩, ⟨q0, q1, q2, lq⟩⟩ := s0.cells
  have k0 := pack_cell p0 lp
  have k1 := pack_cell p1 lp
  have k2 := pack_cell p2 lp
  have j0 := pack_cell q0 lq
  have j1 := pack_cell q1 lq
  have j2 := pack_cell q2 lq
  clear p0 p1 p2 lp q0 q1 q2 lq
  refine wp_region_pack (by kernel_rfl) (by kernel_rfl) ?_
  repeat (first | go_big_quiet_skip | (go_big_quiet_want; go_big_quiet_op; first | go_big_quiet_on | (apply Exists.intro; refine ⟨fun npk => ?_, ?_⟩; (focus (first | (go_at_call 15; exact pack_call (vright_ok r c A n cp _ HM.out)) | (go_at_call 20; exact pack_call (rright_ok r c (some ⟨bD, oD, none⟩) n d _ HM.out)))); go_big_quiet_on)))
  refine wpQuiet_nil ?_
  intro nq
  have s1 := s0.call nq.ok
  clear k0 k1 k2 j0 j1 j2 s0
  generalize nq.w = W1 at *
  obtain ⟨⟨p0, p1, p2, lp⟩, ⟨q0, q1, q2, lq⟩⟩ := s1.cells
  go_wp2_with fail
  refine (matvec_no (.pointer (some ⟨G, 0, none⟩)) r c A B n m cp cq _ g7 hp1).mono ?_
  rintro e y2 ⟨rfl, hb⟩
  have s2 := s1.call hb
  clear s1 hb
  clear p0 p1 p2 lp q0 q1 q2 lq
  obtain ⟨⟨p0, p1, p2, lp⟩, ⟨q0, q1, q2, lq⟩⟩ := s2.cells
  go_wp2_with fail
  refine (rright_ok r c (some ⟨bD, oD, none⟩) n d _ HM.out).mono ?_
  rintro e y3 ⟨rfl, hb⟩
  have s3 := s2.call hb
  clear s2 hb
  clear p0 p1 p2 lp q0 q1 q2 lq
  obtain ⟨⟨p0, p1, p2, lp⟩, ⟨q0, q1, q2, lq⟩⟩ := s3.cells
  go_upto_region 15 with (go_at_call 21; refine (refused4_any none 0 G 40 _ s3.1.2.1).mono ?_; rintro e y4 ⟨rfl, hb⟩)
  have s4 := s3.call hb
  clear s3 hb
  clear p0 p1 p2 lp q0 q1 q2 lq
  have kn := cell_of_one s4.1.2.1.some_
  have kf := free_of_one s4.1.2.1.some_
  have km := cell_of_one s4.1.2.2.1
  have kg := free_of_one s4.1.2.2.1
  have l1 := s4.1.2.2.1.lt
  have l2 := s4.1.2.1.lt G rfl
  go_wp2_with (go_at_call 25; go_in)
  go_end0
  go_upto_region 17 with (fail)
  refine at_world fun Wn hWn => ?_
  have s5 : MT w Wn G N r c A n cp az (some ⟨bD, oD, none⟩) d B m xs 0 0 := by subst hWn; exact s4.nought
  clear hWn kn kf km kg l1 l2 s4
  obtain ⟨⟨p0, p1, p2, lp⟩, ⟨q0, q1, q2, lq⟩⟩ := s5.cells
  go_wp2_with fail
  refine (vecmat_no (.pointer (some ⟨G, 0, none⟩)) r c A B n m cp cq _ g7 hp2).mono ?_
  rintro e y6 ⟨rfl, hb⟩
  have s6 := s5.call hb
  clear s5 hb
  clear p0 p1 p2 lp q0 q1 q2 lq
  obtain ⟨⟨p0, p1, p2, lp⟩, ⟨q0, q1, q2, lq⟩⟩ := s6.cells
  go_wp2_with fail
  refine (rright_ok r c (some ⟨bD, oD, none⟩) n d _ HM.out).mono ?_
  rintro e y7 ⟨rfl, hb⟩
  have s7 := s6.call hb
  clear s6 hb
  clear p0 p1 p2 lp q0 q1 q2 lq
  obtain ⟨⟨p0, p1, p2, lp⟩, ⟨q0, q1, q2, lq⟩⟩ := s7.cells
  go_wp2_with (go_at_call 21; refine (refused4_any none 0 G 40 _ s7.1.2.1).mono ?_; rintro e y8 ⟨rfl, hb⟩)
  go_ret
  exact ⟨rfl, (s7.call hb).1.2.2.2⟩
set_option maxHeartbeats 8000000 in
set_option maxRecDepth 100000 in
theorem vmats_tf (r c : Nat) (A B : Option Addr) (n cp m cq : Nat) (az xs : List Int) (w : World) (hn : n ≤ 200) (hm : m ≤ 200) (hA : Rd w none A n az) (hB0 : Rd w none B m xs) (ha : All64 az) (hx : All64 xs) (hM : MatOk r c n) (hp2 : ¬ (MatOk r c n ∧ (m : Int) = (r : Int))) (hq1 : m = c) :
    Calls Try.prog 4 #[.agg #[.int .i64 r, .int .i64 c, .slice A n cp], .slice B m cq] w fun e w' => e = .returned (.bool true) ∧ Below w.heap.size w w' := by
  have hnz : 0 < n := by
    obtain ⟨a1, a2, _, _, _, a6⟩ := hM
    have := Int.mul_le_mul a1 a2 (by omega) (by omega)
    omega
  obtain rfl : m = c := hq1
  have e2 : ((m : Int) != (r : Int)) = true := by simp only [bne_iff_ne]; exact fun e => hp2 ⟨hM, e⟩
  have hrb : r ≤ 65536 := by have := hM.2.2.1; omega
  have hcb : m ≤ 65536 := by have := hM.2.2.2.1; omega
  have AW := Lib.hid (fun W => awake4_any W)
  have T1 := Lib.hid (decide_eq_true (show n ≤ 200 ∧ m ≤ 200 from ⟨hn, hm⟩))
  have HA := Lib.hid hA
  have HB := Lib.hid hB0
  have m1 : n < 1000000 := by omega
  have m2 : m < 1000000 := by omega
  have g7 : m ≤ 65536 := by omega
  have HM := Lib.hid hM
  clear hA hB0 hM
  go_enter Try.func4, Try.ntmps4
  go_upto_region 5 with (first
    | (go_at_call 13; refine (AW.out _).mono ?_; rintro e w1 ⟨rfl, hb1⟩; obtain ⟨hc1, hf1, hz1⟩ := bcell hb1; (try simp at hz1); (try have : w.heap.size < w1.heap.size := by omega); (try have : w.heap.size + 1 < w1.heap.size := by omega); (try have : w.heap.size + 1 + 1 < w1.heap.size := by omega); (try have : w.heap.size + 1 + 1 + 1 < w1.heap.size := by omega); (try have : g < w1.heap.size := by omega); (try have : ga < w1.heap.size := by omega); (try have : gb < w1.heap.size := by omega); (try have : gc < w1.heap.size := by omega); have hB : Below w.heap.size w w1 := (by repeat (first | (with_reducible exact Below.refl _ _) | (with_reducible assumption) | (with_reducible refine Below.drew ?_) | (with_reducible refine Below.alloc ?_ ?_ _) | (with_reducible refine Below.setCell ?_ ?_ _) | (with_reducible refine Below.trans ?_ (Below.mono hb ?_)) | (with_reducible refine Below.trans ?_ (Below.mono hb1 ?_)) | (with_reducible refine Below.trans ?_ (Below.mono hb2 ?_)) | (with_reducible refine Below.trans ?_ (Below.mono hb3 ?_)) | (with_reducible refine Below.trans ?_ (Below.mono hb4 ?_)) | (with_reducible refine Below.trans ?_ (Below.mono hb5 ?_)) | (with_reducible refine Below.trans ?_ (Below.mono hb6 ?_)) | (with_reducible refine Below.trans ?_ (Below.mono hb7 ?_)) | (with_reducible refine Below.trans ?_ (Below.mono hb8 ?_)) | (with_reducible refine Below.trans ?_ (Below.mono hb9 ?_)) | (focus (first | omega | (simp; done) | (simp; omega))) | exact hB)))
    | (go_at_call 14; refine (few4_two A B n m cp cq _ _ (by simp) (by simp)).mono ?_; rw [T1.out]; rintro e w2 ⟨rfl, rfl⟩))
  have bM0 : w1.heap[w.heap.size]? = some (.cells #[.int .i64 r, .int .i64 m, .slice A n cp] 24 (0, 0)) := hp_call (heap_alloc_new w _) hb1
  go_upto_region 6 with (fail)
  refine at_world fun Wb hWb => ?_
  have tw : Two w Wb (w1.heap.size + 1) 0 := by
    subst hWb
    refine ⟨Unt.at_ ((Below.heap_alloc _ _ _ (by simp)).trans (newest_at _ _ (by simp))), newest_at _ _ (by simp), (by repeat (first | (with_reducible exact Below.refl _ _) | (with_reducible assumption) | (with_reducible refine Below.drew ?_) | (with_reducible refine Below.alloc ?_ ?_ _) | (with_reducible refine Below.setCell ?_ ?_ _) | (with_reducible refine Below.trans ?_ (Below.mono hb ?_)) | (with_reducible refine Below.trans ?_ (Below.mono hb1 ?_)) | (with_reducible refine Below.trans ?_ (Below.mono hb2 ?_)) | (with_reducible refine Below.trans ?_ (Below.mono hb3 ?_)) | (with_reducible refine Below.trans ?_ (Below.mono hb4 ?_)) | (with_reducible refine Below.trans ?_ (Below.mono hb5 ?_)) | (with_reducible refine Below.trans ?_ (Below.mono hb6 ?_)) | (with_reducible refine Below.trans ?_ (Below.mono hb7 ?_)) | (with_reducible refine Below.trans ?_ (Below.mono hb8 ?_)) | (with_reducible refine Below.trans ?_ (Below.mono hb9 ?_)) | (focus (first | omega | (simp; done) | (simp; omega))) | exact hB))⟩
  have bM1 : Wb.heap[w.heap.size]? = some (.cells #[.int .i64 r, .int .i64 m, .slice A n cp] 24 (0, 0)) := by subst hWb; exact hp_alloc (hp_alloc (hp_alloc bM0 _) _) _
  have hG : w.heap.size < w1.heap.size + 1 := by have := lt_of_block bM0; omega
  clear hWb hb1 hc1 hf1 hB bM0
  generalize w1.heap.size + 1 = G at *
  have hSw : ∀ g, SG G g → w.heap.size ≤ g := by rintro g (rfl | rfl) <;> omega
  have hSb : ∀ g, SG G g → g < Wb.heap.size := by
    rintro g (rfl | rfl)
    · exact tw.1.lt g rfl
    · exact tw.2.1.lt
  have p0 := cell_of_row Wb _ 0 _ _ _ bM1
  have p1 := cell_of_row Wb _ 1 _ _ _ bM1
  have p2 := cell_of_row Wb _ 2 _ _ _ bM1
  have lp := lt_of_block bM1
  simp only [List.getElem?_toArray, List.getElem?_cons_zero, List.getElem?_cons_succ] at p0 p1 p2
  go_upto_region 7 with (go_at_call 19; refine (mat4_any r m A n cp az _ m1 (HA.out.call tw.2.2)).mono ?_; rintro e x1 ⟨D, d, rfl, hnd, hO1, hb1⟩)
  refine at_world fun Wm hWm => ?_
  have BWm : Below x1.heap.size x1 Wm := by subst hWm; exact (Below.refl _ _).alloc (Nat.le_refl _) _
  have bN : Wm.heap[x1.heap.size]? = some (.cells #[.int .i64 r, .int .i64 m, .slice D n d] 46 (0, 0)) := by subst hWm; exact heap_alloc_new x1 _
  have zx := hb1.size
  obtain ⟨bD, oD, rfl, _⟩ : ∃ bD oD, D = some ⟨bD, oD, none⟩ ∧ True := by
    obtain ⟨A9, c9, e9, r9⟩ := hO1.lenW HA.out.1
    obtain ⟨b9, o9, e8, _⟩ := r9.2 hnz
    simp only [Value.slice.injEq] at e9
    exact ⟨b9, o9, e9.1.trans e8, trivial⟩
  have rD := (OwnI.offS hO1 HA.out.1 (SG G) (fun g h => .inl (hSb g h))).call BWm
  have hb2 : Below Wb.heap.size Wb Wm := hb1.trans (BWm.mono zx)
  have t2 := tw.call hb2
  have rA2 := (HA.out.apart hSw).call t2.2.2
  have rB2 := (HB.out.apart hSw).call t2.2.2
  have s0 : MT w Wm G x1.heap.size r m A n cp az (some ⟨bD, oD, none⟩) d B m xs 0 0 := ⟨⟨⟨rA2, rB2, rD, rB2⟩, t2⟩, hp_call bM1 hb2, bN, by have := hSb _ (sgL G); omega, by have := hSb _ (sgR G); omega, hG⟩
  clear hWm BWm bN hO1 hb1 hb2 tw t2 rA2 rB2 rD hSb hSw bM1 zx p0 p1 p2 lp
  generalize x1.heap.size = N at *
  obtain ⟨⟨p0, p1, p2, lp⟩, ⟨q0, q1, q2, lq⟩⟩ := s0.cells
  have k0 := pack_cell p0 lp
  have k1 := pack_cell p1 lp
  have k2 := pack_cell p2 lp
  have j0 := pack_cell q0 lq
  have j1 := pack_cell q1 lq
  have j2 := pack_cell q2 lq
  clear p0 p1 p2 lp q0 q1 q2 lq
  refine wp_region_pack (by kernel_rfl) (by kernel_rfl) ?_
  repeat (first | go_big_quiet_skip | (go_big_quiet_want; go_big_quiet_op; first | go_big_quiet_on | (apply Exists.intro; refine ⟨fun npk => ?_, ?_⟩; (focus (first | (go_at_call 15; exact pack_call (vright_ok r m A n cp _ HM.out)) | (go_at_call 20; exact pack_call (rright_ok r m (some ⟨bD, oD, none⟩) n d _ HM.out)))); go_big_quiet_on)))
  refine wpQuiet_nil ?_
  intro nq
  have s1 := s0.call nq.ok
  clear k0 k1 k2 j0 j1 j2 s0
  generalize nq.w = W1 at *
  obtain ⟨⟨p0, p1, p2, lp⟩, ⟨q0, q1, q2, lq⟩⟩ := s1.cells
  go_wp2_with fail
  refine (matvec_any (.pointer (some ⟨G, 0, none⟩)) (some G) 0 r m A B n cp cq az xs _ HM.out (s1.1.1.1.at_ (sgL G)) (s1.1.1.2.1.at_ (sgL G)) ha hx s1.1.2.1 (by omega) (by omega)).mono ?_
  rintro e y2 ⟨V, rfl, hO, hg, hU⟩
  obtain ⟨L2, f2, rfl, r2⟩ := hO.apart (S := SG G) (rowI_length _ _) s1.1.lt
  have s2 := s1.left hg hU
  clear s1 hO hg hU
  clear p0 p1 p2 lp q0 q1 q2 lq
  obtain ⟨⟨p0, p1, p2, lp⟩, ⟨q0, q1, q2, lq⟩⟩ := s2.cells
  go_wp2_with fail
  refine (rright_ok r m (some ⟨bD, oD, none⟩) n d _ HM.out).mono ?_
  rintro e y3 ⟨rfl, hb⟩
  have s3 := s2.call hb
  have r3 := r2.call hb
  clear r2
  clear s2 hb
  clear p0 p1 p2 lp q0 q1 q2 lq
  obtain ⟨⟨p0, p1, p2, lp⟩, ⟨q0, q1, q2, lq⟩⟩ := s3.cells
  go_upto_region 13 with (fail)
  obtain ⟨Y, hY⟩ : ∃ Y : World, Y = y3 := ⟨_, rfl⟩
  obtain rfl : Y = y3 := hY
  go_cut [61] (fun v w' => v = .bool false ∧ MT w w' G N r m A n cp az (some ⟨bD, oD, none⟩) d B m xs (0 + cntI (mvV xs az m) r) (0 + cntI (mvV xs az m) r))
  case first =>
    go_region_with (first
      | (go_at_call 24; refine (plain04_any B m cq xs _ m2 ((s3.1.1.2.1.none_).call (by repeat (first | (with_reducible exact Below.refl _ _) | (with_reducible assumption) | (with_reducible refine Below.drew ?_) | (with_reducible refine Below.alloc ?_ ?_ _) | (with_reducible refine Below.setCell ?_ ?_ _) | (with_reducible refine Below.trans ?_ (Below.mono hb ?_)) | (with_reducible refine Below.trans ?_ (Below.mono hb1 ?_)) | (with_reducible refine Below.trans ?_ (Below.mono hb2 ?_)) | (with_reducible refine Below.trans ?_ (Below.mono hb3 ?_)) | (with_reducible refine Below.trans ?_ (Below.mono hb4 ?_)) | (with_reducible refine Below.trans ?_ (Below.mono hb5 ?_)) | (with_reducible refine Below.trans ?_ (Below.mono hb6 ?_)) | (with_reducible refine Below.trans ?_ (Below.mono hb7 ?_)) | (with_reducible refine Below.trans ?_ (Below.mono hb8 ?_)) | (with_reducible refine Below.trans ?_ (Below.mono hb9 ?_)) | (focus (first | omega | (simp; done) | (simp; omega))) | exact hB)))).mono ?_; rintro e x1 ⟨V1, rfl, hO1, hb1⟩; replace hb1 := undrew hb1; obtain ⟨hc1, hf1, hz1⟩ := bcell hb1; obtain ⟨D1, e1, rfl, r1⟩ := hO1.apart (S := SG G) HB.out.1 s3.1.lt)
      | (go_at_call 23; refine (rmatvec_any (G + 1) 0 r m bD oD D1 n d e1 az xs _ HM.out hnd (s3.1.1.2.2.1.call hb1 |>.at_ (sgR G)) (r1.at_ (sgR G)) ha hx (s3.1.2.2.1.call hb1) (by omega) (by omega)).mono ?_; rintro e x2 ⟨V, rfl, hO, hg, hU⟩; obtain ⟨L4, f4, rfl, r4⟩ := hO.apart (S := SG G) (rowI_length _ _) (s3.call hb1).1.lt; have r3b := (r3.call hb1).grow hg (sgR G); have s9 := (s3.call hb1).right hg hU)
      | (go_at_call 22; refine (like4_any L2 L4 r f2 f4 G (G + 1) _ _ _ (by omega) r3b.none_ r4.none_ s9.1.2.1 s9.1.2.2.1).mono ?_; rintro e x3 ⟨rfl, hb3⟩; have s10 := s9.call hb3))
    all_goals
      go_wp2_with fail
      go_meet
      case rel => exact ⟨rfl, s10⟩
  case rest =>
  obtain ⟨rfl, s4⟩ := hcut
  clear s3 r3
  clear p0 p1 p2 lp q0 q1 q2 lq
  have kn := cell_of_one s4.1.2.1.some_
  have kf := free_of_one s4.1.2.1.some_
  have km := cell_of_one s4.1.2.2.1
  have kg := free_of_one s4.1.2.2.1
  have l1 := s4.1.2.2.1.lt
  have l2 := s4.1.2.1.lt G rfl
  go_wp2_with (go_at_call 25; go_in)
  go_end0
  go_upto_region 17 with (fail)
  refine at_world fun Wn hWn => ?_
  have s5 : MT w Wn G N r m A n cp az (some ⟨bD, oD, none⟩) d B m xs 0 0 := by subst hWn; exact s4.nought
  clear hWn kn kf km kg l1 l2 s4
  obtain ⟨⟨p0, p1, p2, lp⟩, ⟨q0, q1, q2, lq⟩⟩ := s5.cells
  go_wp2_with fail
  refine (vecmat_no (.pointer (some ⟨G, 0, none⟩)) r m A B n m cp cq _ g7 hp2).mono ?_
  rintro e y6 ⟨rfl, hb⟩
  have s6 := s5.call hb
  clear s5 hb
  clear p0 p1 p2 lp q0 q1 q2 lq
  obtain ⟨⟨p0, p1, p2, lp⟩, ⟨q0, q1, q2, lq⟩⟩ := s6.cells
  go_wp2_with fail
  refine (rright_ok r m (some ⟨bD, oD, none⟩) n d _ HM.out).mono ?_
  rintro e y7 ⟨rfl, hb⟩
  have s7 := s6.call hb
  clear s6 hb
  clear p0 p1 p2 lp q0 q1 q2 lq
  obtain ⟨⟨p0, p1, p2, lp⟩, ⟨q0, q1, q2, lq⟩⟩ := s7.cells
  go_wp2_with (go_at_call 21; refine (refused4_any none 0 G 40 _ s7.1.2.1).mono ?_; rintro e y8 ⟨rfl, hb⟩)
  go_ret
  exact ⟨rfl, (s7.call hb).1.2.2.2⟩
set_option maxHeartbeats 8000000 in
set_option maxRecDepth 100000 in
theorem vmats_ft (r c : Nat) (A B : Option Addr) (n cp m cq : Nat) (az xs : List Int) (w : World) (hn : n ≤ 200) (hm : m ≤ 200) (hA : Rd w none A n az) (hB0 : Rd w none B m xs) (ha : All64 az) (hx : All64 xs) (hM : MatOk r c n) (hp1 : ¬ (MatOk r c n ∧ (m : Int) = (c : Int))) (hq2 : m = r) :
    Calls Try.prog 4 #[.agg #[.int .i64 r, .int .i64 c, .slice A n cp], .slice B m cq] w fun e w' => e = .returned (.bool true) ∧ Below w.heap.size w w' := by
  have hnz : 0 < n := by
    obtain ⟨a1, a2, _, _, _, a6⟩ := hM
    have := Int.mul_le_mul a1 a2 (by omega) (by omega)
    omega
  obtain rfl : m = r := hq2
  have e1 : ((m : Int) != (c : Int)) = true := by simp only [bne_iff_ne]; exact fun e => hp1 ⟨hM, e⟩
  have hrb : m ≤ 65536 := by have := hM.2.2.1; omega
  have hcb : c ≤ 65536 := by have := hM.2.2.2.1; omega
  have AW := Lib.hid (fun W => awake4_any W)
  have T1 := Lib.hid (decide_eq_true (show n ≤ 200 ∧ m ≤ 200 from ⟨hn, hm⟩))
  have HA := Lib.hid hA
  have HB := Lib.hid hB0
  have m1 : n < 1000000 := by omega
  have m2 : m < 1000000 := by omega
  have g7 : m ≤ 65536 := by omega
  have HM := Lib.hid hM
  clear hA hB0 hM
  go_enter Try.func4, Try.ntmps4
  go_upto_region 5 with (first
    | (go_at_call 13; refine (AW.out _).mono ?_; rintro e w1 ⟨rfl, hb1⟩; obtain ⟨hc1, hf1, hz1⟩ := bcell hb1; (try simp at hz1); (try have : w.heap.size < w1.heap.size := by omega); (try have : w.heap.size + 1 < w1.heap.size := by omega); (try have : w.heap.size + 1 + 1 < w1.heap.size := by omega); (try have : w.heap.size + 1 + 1 + 1 < w1.heap.size := by omega); (try have : g < w1.heap.size := by omega); (try have : ga < w1.heap.size := by omega); (try have : gb < w1.heap.size := by omega); (try have : gc < w1.heap.size := by omega); have hB : Below w.heap.size w w1 := (by repeat (first | (with_reducible exact Below.refl _ _) | (with_reducible assumption) | (with_reducible refine Below.drew ?_) | (with_reducible refine Below.alloc ?_ ?_ _) | (with_reducible refine Below.setCell ?_ ?_ _) | (with_reducible refine Below.trans ?_ (Below.mono hb ?_)) | (with_reducible refine Below.trans ?_ (Below.mono hb1 ?_)) | (with_reducible refine Below.trans ?_ (Below.mono hb2 ?_)) | (with_reducible refine Below.trans ?_ (Below.mono hb3 ?_)) | (with_reducible refine Below.trans ?_ (Below.mono hb4 ?_)) | (with_reducible refine Below.trans ?_ (Below.mono hb5 ?_)) | (with_reducible refine Below.trans ?_ (Below.mono hb6 ?_)) | (with_reducible refine Below.trans ?_ (Below.mono hb7 ?_)) | (with_reducible refine Below.trans ?_ (Below.mono hb8 ?_)) | (with_reducible refine Below.trans ?_ (Below.mono hb9 ?_)) | (focus (first | omega | (simp; done) | (simp; omega))) | exact hB)))
    | (go_at_call 14; refine (few4_two A B n m cp cq _ _ (by simp) (by simp)).mono ?_; rw [T1.out]; rintro e w2 ⟨rfl, rfl⟩))
  have bM0 : w1.heap[w.heap.size]? = some (.cells #[.int .i64 m, .int .i64 c, .slice A n cp] 24 (0, 0)) := hp_call (heap_alloc_new w _) hb1
  go_upto_region 6 with (fail)
  refine at_world fun Wb hWb => ?_
  have tw : Two w Wb (w1.heap.size + 1) 0 := by
    subst hWb
    refine ⟨Unt.at_ ((Below.heap_alloc _ _ _ (by simp)).trans (newest_at _ _ (by simp))), newest_at _ _ (by simp), (by repeat (first | (with_reducible exact Below.refl _ _) | (with_reducible assumption) | (with_reducible refine Below.drew ?_) | (with_reducible refine Below.alloc ?_ ?_ _) | (with_reducible refine Below.setCell ?_ ?_ _) | (with_reducible refine Below.trans ?_ (Below.mono hb ?_)) | (with_reducible refine Below.trans ?_ (Below.mono hb1 ?_)) | (with_reducible refine Below.trans ?_ (Below.mono hb2 ?_)) | (with_reducible refine Below.trans ?_ (Below.mono hb3 ?_)) | (with_reducible refine Below.trans ?_ (Below.mono hb4 ?_)) | (with_reducible refine Below.trans ?_ (Below.mono hb5 ?_)) | (with_reducible refine Below.trans ?_ (Below.mono hb6 ?_)) | (with_reducible refine Below.trans ?_ (Below.mono hb7 ?_)) | (with_reducible refine Below.trans ?_ (Below.mono hb8 ?_)) | (with_reducible refine Below.trans ?_ (Below.mono hb9 ?_)) | (focus (first | omega | (simp; done) | (simp; omega))) | exact hB))⟩
  have bM1 : Wb.heap[w.heap.size]? = some (.cells #[.int .i64 m, .int .i64 c, .slice A n cp] 24 (0, 0)) := by subst hWb; exact hp_alloc (hp_alloc (hp_alloc bM0 _) _) _
  have hG : w.heap.size < w1.heap.size + 1 := by have := lt_of_block bM0; omega
  clear hWb hb1 hc1 hf1 hB bM0
  generalize w1.heap.size + 1 = G at *
  have hSw : ∀ g, SG G g → w.heap.size ≤ g := by rintro g (rfl | rfl) <;> omega
  have hSb : ∀ g, SG G g → g < Wb.heap.size := by
    rintro g (rfl | rfl)
    · exact tw.1.lt g rfl
    · exact tw.2.1.lt
  have p0 := cell_of_row Wb _ 0 _ _ _ bM1
  have p1 := cell_of_row Wb _ 1 _ _ _ bM1
  have p2 := cell_of_row Wb _ 2 _ _ _ bM1
  have lp := lt_of_block bM1
  simp only [List.getElem?_toArray, List.getElem?_cons_zero, List.getElem?_cons_succ] at p0 p1 p2
  go_upto_region 7 with (go_at_call 19; refine (mat4_any m c A n cp az _ m1 (HA.out.call tw.2.2)).mono ?_; rintro e x1 ⟨D, d, rfl, hnd, hO1, hb1⟩)
  refine at_world fun Wm hWm => ?_
  have BWm : Below x1.heap.size x1 Wm := by subst hWm; exact (Below.refl _ _).alloc (Nat.le_refl _) _
  have bN : Wm.heap[x1.heap.size]? = some (.cells #[.int .i64 m, .int .i64 c, .slice D n d] 46 (0, 0)) := by subst hWm; exact heap_alloc_new x1 _
  have zx := hb1.size
  obtain ⟨bD, oD, rfl, _⟩ : ∃ bD oD, D = some ⟨bD, oD, none⟩ ∧ True := by
    obtain ⟨A9, c9, e9, r9⟩ := hO1.lenW HA.out.1
    obtain ⟨b9, o9, e8, _⟩ := r9.2 hnz
    simp only [Value.slice.injEq] at e9
    exact ⟨b9, o9, e9.1.trans e8, trivial⟩
  have rD := (OwnI.offS hO1 HA.out.1 (SG G) (fun g h => .inl (hSb g h))).call BWm
  have hb2 : Below Wb.heap.size Wb Wm := hb1.trans (BWm.mono zx)
  have t2 := tw.call hb2
  have rA2 := (HA.out.apart hSw).call t2.2.2
  have rB2 := (HB.out.apart hSw).call t2.2.2
  have s0 : MT w Wm G x1.heap.size m c A n cp az (some ⟨bD, oD, none⟩) d B m xs 0 0 := ⟨⟨⟨rA2, rB2, rD, rB2⟩, t2⟩, hp_call bM1 hb2, bN, by have := hSb _ (sgL G); omega, by have := hSb _ (sgR G); omega, hG⟩
  clear hWm BWm bN hO1 hb1 hb2 tw t2 rA2 rB2 rD hSb hSw bM1 zx p0 p1 p2 lp
  generalize x1.heap.size = N at *
  obtain ⟨⟨p0, p1, p2, lp⟩, ⟨q0, q1, q2, lq⟩⟩ := s0.cells
  have k0 := pack_cell p0 lp
  have k1 := pack_cell p1 lp
  have k2 := pack_cell p2 lp
  have j0 := pack_cell q0 lq
  have j1 := pack_cell q1 lq
  have j2 := pack_cell q2 lq
  clear p0 p1 p2 lp q0 q1 q2 lq
  refine wp_region_pack (by kernel_rfl) (by kernel_rfl) ?_
  repeat (first | go_big_quiet_skip | (go_big_quiet_want; go_big_quiet_op; first | go_big_quiet_on | (apply Exists.intro; refine ⟨fun npk => ?_, ?_⟩; (focus (first | (go_at_call 15; exact pack_call (vright_ok m c A n cp _ HM.out)) | (go_at_call 20; exact pack_call (rright_ok m c (some ⟨bD, oD, none⟩) n d _ HM.out)))); go_big_quiet_on)))
  refine wpQuiet_nil ?_
  intro nq
  have s1 := s0.call nq.ok
  clear k0 k1 k2 j0 j1 j2 s0
  generalize nq.w = W1 at *
  obtain ⟨⟨p0, p1, p2, lp⟩, ⟨q0, q1, q2, lq⟩⟩ := s1.cells
  go_wp2_with fail
  refine (matvec_no (.pointer (some ⟨G, 0, none⟩)) m c A B n m cp cq _ g7 hp1).mono ?_
  rintro e y2 ⟨rfl, hb⟩
  have s2 := s1.call hb
  clear s1 hb
  clear p0 p1 p2 lp q0 q1 q2 lq
  obtain ⟨⟨p0, p1, p2, lp⟩, ⟨q0, q1, q2, lq⟩⟩ := s2.cells
  go_wp2_with fail
  refine (rright_ok m c (some ⟨bD, oD, none⟩) n d _ HM.out).mono ?_
  rintro e y3 ⟨rfl, hb⟩
  have s3 := s2.call hb
  clear s2 hb
  clear p0 p1 p2 lp q0 q1 q2 lq
  obtain ⟨⟨p0, p1, p2, lp⟩, ⟨q0, q1, q2, lq⟩⟩ := s3.cells
  go_upto_region 15 with (go_at_call 21; refine (refused4_any none 0 G 40 _ s3.1.2.1).mono ?_; rintro e y4 ⟨rfl, hb⟩)
  have s4 := s3.call hb
  clear s3 hb
  clear p0 p1 p2 lp q0 q1 q2 lq
  have kn := cell_of_one s4.1.2.1.some_
  have kf := free_of_one s4.1.2.1.some_
  have km := cell_of_one s4.1.2.2.1
  have kg := free_of_one s4.1.2.2.1
  have l1 := s4.1.2.2.1.lt
  have l2 := s4.1.2.1.lt G rfl
  go_wp2_with (go_at_call 25; go_in)
  go_end0
  go_upto_region 17 with (fail)
  refine at_world fun Wn hWn => ?_
  have s5 : MT w Wn G N m c A n cp az (some ⟨bD, oD, none⟩) d B m xs 0 0 := by subst hWn; exact s4.nought
  clear hWn kn kf km kg l1 l2 s4
  obtain ⟨⟨p0, p1, p2, lp⟩, ⟨q0, q1, q2, lq⟩⟩ := s5.cells
  go_wp2_with fail
  refine (vecmat_any (.pointer (some ⟨G, 0, none⟩)) (some G) 0 m c A B n cp cq az xs _ HM.out (s5.1.1.1.at_ (sgL G)) (s5.1.1.2.1.at_ (sgL G)) ha hx s5.1.2.1 (by omega) (by omega)).mono ?_
  rintro e y6 ⟨V, rfl, hO, hg, hU⟩
  obtain ⟨L6, f6, rfl, r6⟩ := hO.apart (S := SG G) (rowI_length _ _) s5.1.lt
  have s6 := s5.left hg hU
  clear s5 hO hg hU
  clear p0 p1 p2 lp q0 q1 q2 lq
  obtain ⟨⟨p0, p1, p2, lp⟩, ⟨q0, q1, q2, lq⟩⟩ := s6.cells
  go_wp2_with fail
  refine (rright_ok m c (some ⟨bD, oD, none⟩) n d _ HM.out).mono ?_
  rintro e y7 ⟨rfl, hb⟩
  have s7 := s6.call hb
  have r7 := r6.call hb
  clear r6
  clear s6 hb
  clear p0 p1 p2 lp q0 q1 q2 lq
  obtain ⟨⟨p0, p1, p2, lp⟩, ⟨q0, q1, q2, lq⟩⟩ := s7.cells
  go_upto_region 20 with (fail)
  obtain ⟨Y, hY⟩ : ∃ Y : World, Y = y7 := ⟨_, rfl⟩
  obtain rfl : Y = y7 := hY
  go_region_with (first
    | (go_at_call 24; refine (plain04_any B m cq xs _ m2 ((s7.1.1.2.1.none_).call (by repeat (first | (with_reducible exact Below.refl _ _) | (with_reducible assumption) | (with_reducible refine Below.drew ?_) | (with_reducible refine Below.alloc ?_ ?_ _) | (with_reducible refine Below.setCell ?_ ?_ _) | (with_reducible refine Below.trans ?_ (Below.mono hb ?_)) | (with_reducible refine Below.trans ?_ (Below.mono hb1 ?_)) | (with_reducible refine Below.trans ?_ (Below.mono hb2 ?_)) | (with_reducible refine Below.trans ?_ (Below.mono hb3 ?_)) | (with_reducible refine Below.trans ?_ (Below.mono hb4 ?_)) | (with_reducible refine Below.trans ?_ (Below.mono hb5 ?_)) | (with_reducible refine Below.trans ?_ (Below.mono hb6 ?_)) | (with_reducible refine Below.trans ?_ (Below.mono hb7 ?_)) | (with_reducible refine Below.trans ?_ (Below.mono hb8 ?_)) | (with_reducible refine Below.trans ?_ (Below.mono hb9 ?_)) | (focus (first | omega | (simp; done) | (simp; omega))) | exact hB)))).mono ?_; rintro e x1 ⟨V1, rfl, hO1, hb1⟩; replace hb1 := undrew hb1; obtain ⟨hc1, hf1, hz1⟩ := bcell hb1; obtain ⟨D1, e1, rfl, r1⟩ := hO1.apart (S := SG G) HB.out.1 s7.1.lt)
    | (go_at_call 26; refine (rvecmat_any (G + 1) 0 m c (some ⟨bD, oD, none⟩) D1 n d e1 az xs _ HM.out (s7.1.1.2.2.1.call hb1 |>.at_ (sgR G)) (r1.at_ (sgR G)) ha hx (s7.1.2.2.1.call hb1) (by omega) (by omega)).mono ?_; rintro e x2 ⟨V, rfl, hO, hg, hU⟩; obtain ⟨L4, f4, rfl, r4⟩ := hO.apart (S := SG G) (rowI_length _ _) (s7.call hb1).1.lt; have r3b := (r7.call hb1).grow hg (sgR G); have s9 := (s7.call hb1).right hg hU)
    | (go_at_call 22; refine (like4_any L6 L4 c f6 f4 G (G + 1) _ _ _ (by omega) r3b.none_ r4.none_ s9.1.2.1 s9.1.2.2.1).mono ?_; rintro e x3 ⟨rfl, hb3⟩; have s10 := s9.call hb3))
  all_goals
    go_wp2_with fail
    go_ret
    exact ⟨rfl, s10.1.2.2.2⟩
set_option maxHeartbeats 8000000 in
set_option maxRecDepth 100000 in
theorem vmats_tt (r c : Nat) (A B : Option Addr) (n cp m cq : Nat) (az xs : List Int) (w : World) (hn : n ≤ 200) (hm : m ≤ 200) (hA : Rd w none A n az) (hB0 : Rd w none B m xs) (ha : All64 az) (hx : All64 xs) (hM : MatOk r c n) (hq1 : m = c) (hq2 : m = r) :
    Calls Try.prog 4 #[.agg #[.int .i64 r, .int .i64 c, .slice A n cp], .slice B m cq] w fun e w' => e = .returned (.bool true) ∧ Below w.heap.size w w' := by
  have hnz : 0 < n := by
    obtain ⟨a1, a2, _, _, _, a6⟩ := hM
    have := Int.mul_le_mul a1 a2 (by omega) (by omega)
    omega
  obtain rfl : m = c := hq1
  obtain rfl : m = r := hq2
  have hrb : m ≤ 65536 := by have := hM.2.2.1; omega
  have hcb : m ≤ 65536 := by have := hM.2.2.2.1; omega
  have AW := Lib.hid (fun W => awake4_any W)
  have T1 := Lib.hid (decide_eq_true (show n ≤ 200 ∧ m ≤ 200 from ⟨hn, hm⟩))
  have HA := Lib.hid hA
  have HB := Lib.hid hB0
  have m1 : n < 1000000 := by omega
  have m2 : m < 1000000 := by omega
  have g7 : m ≤ 65536 := by omega
  have HM := Lib.hid hM
  clear hA hB0 hM
  go_enter Try.func4, Try.ntmps4
  go_upto_region 5 with (first
    | (go_at_call 13; refine (AW.out _).mono ?_; rintro e w1 ⟨rfl, hb1⟩; obtain ⟨hc1, hf1, hz1⟩ := bcell hb1; (try simp at hz1); (try have : w.heap.size < w1.heap.size := by omega); (try have : w.heap.size + 1 < w1.heap.size := by omega); (try have : w.heap.size + 1 + 1 < w1.heap.size := by omega); (try have : w.heap.size + 1 + 1 + 1 < w1.heap.size := by omega); (try have : g < w1.heap.size := by omega); (try have : ga < w1.heap.size := by omega); (try have : gb < w1.heap.size := by omega); (try have : gc < w1.heap.size := by omega); have hB : Below w.heap.size w w1 := (by repeat (first | (with_reducible exact Below.refl _ _) | (with_reducible assumption) | (with_reducible refine Below.drew ?_) | (with_reducible refine Below.alloc ?_ ?_ _) | (with_reducible refine Below.setCell ?_ ?_ _) | (with_reducible refine Below.trans ?_ (Below.mono hb ?_)) | (with_reducible refine Below.trans ?_ (Below.mono hb1 ?_)) | (with_reducible refine Below.trans ?_ (Below.mono hb2 ?_)) | (with_reducible refine Below.trans ?_ (Below.mono hb3 ?_)) | (with_reducible refine Below.trans ?_ (Below.mono hb4 ?_)) | (with_reducible refine Below.trans ?_ (Below.mono hb5 ?_)) | (with_reducible refine Below.trans ?_ (Below.mono hb6 ?_)) | (with_reducible refine Below.trans ?_ (Below.mono hb7 ?_)) | (with_reducible refine Below.trans ?_ (Below.mono hb8 ?_)) | (with_reducible refine Below.trans ?_ (Below.mono hb9 ?_)) | (focus (first | omega | (simp; done) | (simp; omega))) | exact hB)))
    | (go_at_call 14; refine (few4_two A B n m cp cq _ _ (by simp) (by simp)).mono ?_; rw [T1.out]; rintro e w2 ⟨rfl, rfl⟩))
  have bM0 : w1.heap[w.heap.size]? = some (.cells #[.int .i64 m, .int .i64 m, .slice A n cp] 24 (0, 0)) := hp_call (heap_alloc_new w _) hb1
  go_upto_region 6 with (fail)
  refine at_world fun Wb hWb => ?_
  have tw : Two w Wb (w1.heap.size + 1) 0 := by
    subst hWb
    refine ⟨Unt.at_ ((Below.heap_alloc _ _ _ (by simp)).trans (newest_at _ _ (by simp))), newest_at _ _ (by simp), (by repeat (first | (with_reducible exact Below.refl _ _) | (with_reducible assumption) | (with_reducible refine Below.drew ?_) | (with_reducible refine Below.alloc ?_ ?_ _) | (with_reducible refine Below.setCell ?_ ?_ _) | (with_reducible refine Below.trans ?_ (Below.mono hb ?_)) | (with_reducible refine Below.trans ?_ (Below.mono hb1 ?_)) | (with_reducible refine Below.trans ?_ (Below.mono hb2 ?_)) | (with_reducible refine Below.trans ?_ (Below.mono hb3 ?_)) | (with_reducible refine Below.trans ?_ (Below.mono hb4 ?_)) | (with_reducible refine Below.trans ?_ (Below.mono hb5 ?_)) | (with_reducible refine Below.trans ?_ (Below.mono hb6 ?_)) | (with_reducible refine Below.trans ?_ (Below.mono hb7 ?_)) | (with_reducible refine Below.trans ?_ (Below.mono hb8 ?_)) | (with_reducible refine Below.trans ?_ (Below.mono hb9 ?_)) | (focus (first | omega | (simp; done) | (simp; omega))) | exact hB))⟩
  have bM1 : Wb.heap[w.heap.size]? = some (.cells #[.int .i64 m, .int .i64 m, .slice A n cp] 24 (0, 0)) := by subst hWb; exact hp_alloc (hp_alloc (hp_alloc bM0 _) _) _
  have hG : w.heap.size < w1.heap.size + 1 := by have := lt_of_block bM0; omega
  clear hWb hb1 hc1 hf1 hB bM0
  generalize w1.heap.size + 1 = G at *
  have hSw : ∀ g, SG G g → w.heap.size ≤ g := by rintro g (rfl | rfl) <;> omega
  have hSb : ∀ g, SG G g → g < Wb.heap.size := by
    rintro g (rfl | rfl)
    · exact tw.1.lt g rfl
    · exact tw.2.1.lt
  have p0 := cell_of_row Wb _ 0 _ _ _ bM1
  have p1 := cell_of_row Wb _ 1 _ _ _ bM1
  have p2 := cell_of_row Wb _ 2 _ _ _ bM1
  have lp := lt_of_block bM1
  simp only [List.getElem?_toArray, List.getElem?_cons_zero, List.getElem?_cons_succ] at p0 p1 p2
  go_upto_region 7 with (go_at_call 19; refine (mat4_any m m A n cp az _ m1 (HA.out.call tw.2.2)).mono ?_; rintro e x1 ⟨D, d, rfl, hnd, hO1, hb1⟩)
  refine at_world fun Wm hWm => ?_
  have BWm : Below x1.heap.size x1 Wm := by subst hWm; exact (Below.refl _ _).alloc (Nat.le_refl _) _
  have bN : Wm.heap[x1.heap.size]? = some (.cells #[.int .i64 m, .int .i64 m, .slice D n d] 46 (0, 0)) := by subst hWm; exact heap_alloc_new x1 _
  have zx := hb1.size
  obtain ⟨bD, oD, rfl, _⟩ : ∃ bD oD, D = some ⟨bD, oD, none⟩ ∧ True := by
    obtain ⟨A9, c9, e9, r9⟩ := hO1.lenW HA.out.1
    obtain ⟨b9, o9, e8, _⟩ := r9.2 hnz
    simp only [Value.slice.injEq] at e9
    exact ⟨b9, o9, e9.1.trans e8, trivial⟩
  have rD := (OwnI.offS hO1 HA.out.1 (SG G) (fun g h => .inl (hSb g h))).call BWm
  have hb2 : Below Wb.heap.size Wb Wm := hb1.trans (BWm.mono zx)
  have t2 := tw.call hb2
  have rA2 := (HA.out.apart hSw).call t2.2.2
  have rB2 := (HB.out.apart hSw).call t2.2.2
  have s0 : MT w Wm G x1.heap.size m m A n cp az (some ⟨bD, oD, none⟩) d B m xs 0 0 := ⟨⟨⟨rA2, rB2, rD, rB2⟩, t2⟩, hp_call bM1 hb2, bN, by have := hSb _ (sgL G); omega, by have := hSb _ (sgR G); omega, hG⟩
  clear hWm BWm bN hO1 hb1 hb2 tw t2 rA2 rB2 rD hSb hSw bM1 zx p0 p1 p2 lp
  generalize x1.heap.size = N at *
  obtain ⟨⟨p0, p1, p2, lp⟩, ⟨q0, q1, q2, lq⟩⟩ := s0.cells
  have k0 := pack_cell p0 lp
  have k1 := pack_cell p1 lp
  have k2 := pack_cell p2 lp
  have j0 := pack_cell q0 lq
  have j1 := pack_cell q1 lq
  have j2 := pack_cell q2 lq
  clear p0 p1 p2 lp q0 q1 q2 lq
  refine wp_region_pack (by kernel_rfl) (by kernel_rfl) ?_
  repeat (first | go_big_quiet_skip | (go_big_quiet_want; go_big_quiet_op; first | go_big_quiet_on | (apply Exists.intro; refine ⟨fun npk => ?_, ?_⟩; (focus (first | (go_at_call 15; exact pack_call (vright_ok m m A n cp _ HM.out)) | (go_at_call 20; exact pack_call (rright_ok m m (some ⟨bD, oD, none⟩) n d _ HM.out)))); go_big_quiet_on)))
  refine wpQuiet_nil ?_
  intro nq
  have s1 := s0.call nq.ok
  clear k0 k1 k2 j0 j1 j2 s0
  generalize nq.w = W1 at *
  obtain ⟨⟨p0, p1, p2, lp⟩, ⟨q0, q1, q2, lq⟩⟩ := s1.cells
  go_wp2_with fail
  refine (matvec_any (.pointer (some ⟨G, 0, none⟩)) (some G) 0 m m A B n cp cq az xs _ HM.out (s1.1.1.1.at_ (sgL G)) (s1.1.1.2.1.at_ (sgL G)) ha hx s1.1.2.1 (by omega) (by omega)).mono ?_
  rintro e y2 ⟨V, rfl, hO, hg, hU⟩
  obtain ⟨L2, f2, rfl, r2⟩ := hO.apart (S := SG G) (rowI_length _ _) s1.1.lt
  have s2 := s1.left hg hU
  clear s1 hO hg hU
  clear p0 p1 p2 lp q0 q1 q2 lq
  obtain ⟨⟨p0, p1, p2, lp⟩, ⟨q0, q1, q2, lq⟩⟩ := s2.cells
  go_wp2_with fail
  refine (rright_ok m m (some ⟨bD, oD, none⟩) n d _ HM.out).mono ?_
  rintro e y3 ⟨rfl, hb⟩
  have s3 := s2.call hb
  have r3 := r2.call hb
  clear r2
  clear s2 hb
  clear p0 p1 p2 lp q0 q1 q2 lq
  obtain ⟨⟨p0, p1, p2, lp⟩, ⟨q0, q1, q2, lq⟩⟩ := s3.cells
  go_upto_region 13 with (fail)
  obtain ⟨Y, hY⟩ : ∃ Y : World, Y = y3 := ⟨_, rfl⟩
  obtain rfl : Y = y3 := hY
  go_cut [61] (fun v w' => v = .bool false ∧ MT w w' G N m m A n cp az (some ⟨bD, oD, none⟩) d B m xs (0 + cntI (mvV xs az m) m) (0 + cntI (mvV xs az m) m))
  case first =>
    go_region_with (first
      | (go_at_call 24; refine (plain04_any B m cq xs _ m2 ((s3.1.1.2.1.none_).call (by repeat (first | (with_reducible exact Below.refl _ _) | (with_reducible assumption) | (with_reducible refine Below.drew ?_) | (with_reducible refine Below.alloc ?_ ?_ _) | (with_reducible refine Below.setCell ?_ ?_ _) | (with_reducible refine Below.trans ?_ (Below.mono hb ?_)) | (with_reducible refine Below.trans ?_ (Below.mono hb1 ?_)) | (with_reducible refine Below.trans ?_ (Below.mono hb2 ?_)) | (with_reducible refine Below.trans ?_ (Below.mono hb3 ?_)) | (with_reducible refine Below.trans ?_ (Below.mono hb4 ?_)) | (with_reducible refine Below.trans ?_ (Below.mono hb5 ?_)) | (with_reducible refine Below.trans ?_ (Below.mono hb6 ?_)) | (with_reducible refine Below.trans ?_ (Below.mono hb7 ?_)) | (with_reducible refine Below.trans ?_ (Below.mono hb8 ?_)) | (with_reducible refine Below.trans ?_ (Below.mono hb9 ?_)) | (focus (first | omega | (simp; done) | (simp; omega))) | exact hB)))).mono ?_; rintro e x1 ⟨V1, rfl, hO1, hb1⟩; replace hb1 := undrew hb1; obtain ⟨hc1, hf1, hz1⟩ := bcell hb1; obtain ⟨D1, e1, rfl, r1⟩ := hO1.apart (S := SG G) HB.out.1 s3.1.lt)
      | (go_at_call 23; refine (rmatvec_any (G + 1) 0 m m bD oD D1 n d e1 az xs _ HM.out hnd (s3.1.1.2.2.1.call hb1 |>.at_ (sgR G)) (r1.at_ (sgR G)) ha hx (s3.1.2.2.1.call hb1) (by omega) (by omega)).mono ?_; rintro e x2 ⟨V, rfl, hO, hg, hU⟩; obtain ⟨L4, f4, rfl, r4⟩ := hO.apart (S := SG G) (rowI_length _ _) (s3.call hb1).1.lt; have r3b := (r3.call hb1).grow hg (sgR G); have s9 := (s3.call hb1).right hg hU)
      | (go_at_call 22; refine (like4_any L2 L4 m f2 f4 G (G + 1) _ _ _ (by omega) r3b.none_ r4.none_ s9.1.2.1 s9.1.2.2.1).mono ?_; rintro e x3 ⟨rfl, hb3⟩; have s10 := s9.call hb3))
    all_goals
      go_wp2_with fail
      go_meet
      case rel => exact ⟨rfl, s10⟩
  case rest =>
  obtain ⟨rfl, s4⟩ := hcut
  clear s3 r3
  clear p0 p1 p2 lp q0 q1 q2 lq
  have kn := cell_of_one s4.1.2.1.some_
  have kf := free_of_one s4.1.2.1.some_
  have km := cell_of_one s4.1.2.2.1
  have kg := free_of_one s4.1.2.2.1
  have l1 := s4.1.2.2.1.lt
  have l2 := s4.1.2.1.lt G rfl
  go_wp2_with (go_at_call 25; go_in)
  go_end0
  go_upto_region 17 with (fail)
  refine at_world fun Wn hWn => ?_
  have s5 : MT w Wn G N m m A n cp az (some ⟨bD, oD, none⟩) d B m xs 0 0 := by subst hWn; exact s4.nought
  clear hWn kn kf km kg l1 l2 s4
  obtain ⟨⟨p0, p1, p2, lp⟩, ⟨q0, q1, q2, lq⟩⟩ := s5.cells
  go_wp2_with fail
  refine (vecmat_any (.pointer (some ⟨G, 0, none⟩)) (some G) 0 m m A B n cp cq az xs _ HM.out (s5.1.1.1.at_ (sgL G)) (s5.1.1.2.1.at_ (sgL G)) ha hx s5.1.2.1 (by omega) (by omega)).mono ?_
  rintro e y6 ⟨V, rfl, hO, hg, hU⟩
  obtain ⟨L6, f6, rfl, r6⟩ := hO.apart (S := SG G) (rowI_length _ _) s5.1.lt
  have s6 := s5.left hg hU
  clear s5 hO hg hU
  clear p0 p1 p2 lp q0 q1 q2 lq
  obtain ⟨⟨p0, p1, p2, lp⟩, ⟨q0, q1, q2, lq⟩⟩ := s6.cells
  go_wp2_with fail
  refine (rright_ok m m (some ⟨bD, oD, none⟩) n d _ HM.out).mono ?_
  rintro e y7 ⟨rfl, hb⟩
  have s7 := s6.call hb
  have r7 := r6.call hb
  clear r6
  clear s6 hb
  clear p0 p1 p2 lp q0 q1 q2 lq
  obtain ⟨⟨p0, p1, p2, lp⟩, ⟨q0, q1, q2, lq⟩⟩ := s7.cells
  go_upto_region 20 with (fail)
  obtain ⟨Y, hY⟩ : ∃ Y : World, Y = y7 := ⟨_, rfl⟩
  obtain rfl : Y = y7 := hY
  go_region_with (first
    | (go_at_call 24; refine (plain04_any B m cq xs _ m2 ((s7.1.1.2.1.none_).call (by repeat (first | (with_reducible exact Below.refl _ _) | (with_reducible assumption) | (with_reducible refine Below.drew ?_) | (with_reducible refine Below.alloc ?_ ?_ _) | (with_reducible refine Below.setCell ?_ ?_ _) | (with_reducible refine Below.trans ?_ (Below.mono hb ?_)) | (with_reducible refine Below.trans ?_ (Below.mono hb1 ?_)) | (with_reducible refine Below.trans ?_ (Below.mono hb2 ?_)) | (with_reducible refine Below.trans ?_ (Below.mono hb3 ?_)) | (with_reducible refine Below.trans ?_ (Below.mono hb4 ?_)) | (with_reducible refine Below.trans ?_ (Below.mono hb5 ?_)) | (with_reducible refine Below.trans ?_ (Below.mono hb6 ?_)) | (with_reducible refine Below.trans ?_ (Below.mono hb7 ?_)) | (with_reducible refine Below.trans ?_ (Below.mono hb8 ?_)) | (with_reducible refine Below.trans ?_ (Below.mono hb9 ?_)) | (focus (first | omega | (simp; done) | (simp; omega))) | exact hB)))).mono ?_; rintro e x1 ⟨V1, rfl, hO1, hb1⟩; replace hb1 := undrew hb1; obtain ⟨hc1, hf1, hz1⟩ := bcell hb1; obtain ⟨D1, e1, rfl, r1⟩ := hO1.apart (S := SG G) HB.out.1 s7.1.lt)
    | (go_at_call 26; refine (rvecmat_any (G + 1) 0 m m (some ⟨bD, oD, none⟩) D1 n d e1 az xs _ HM.out (s7.1.1.2.2.1.call hb1 |>.at_ (sgR G)) (r1.at_ (sgR G)) ha hx (s7.1.2.2.1.call hb1) (by omega) (by omega)).mono ?_; rintro e x2 ⟨V, rfl, hO, hg, hU⟩; obtain ⟨L4, f4, rfl, r4⟩ := hO.apart (S := SG G) (rowI_length _ _) (s7.call hb1).1.lt; have r3b := (r7.call hb1).grow hg (sgR G); have s9 := (s7.call hb1).right hg hU)
    | (go_at_call 22; refine (like4_any L6 L4 m f6 f4 G (G + 1) _ _ _ (by omega) r3b.none_ r4.none_ s9.1.2.1 s9.1.2.2.1).mono ?_; rintro e x3 ⟨rfl, hb3⟩; have s10 := s9.call hb3))
  all_goals
    go_wp2_with fail
    go_ret
    exact ⟨rfl, s10.1.2.2.2⟩
theorem vecMats_walk (r c : Int) (A : Option Addr) (n cp : Nat) (az : List Int) (B : Option Addr) (m cq : Nat) (xs : List Int) (w : World) (i0 : In64 r ∧ In64 c ∧ (n ≤ cp ∧ cp ≤ 9223372036854775807) ∧ Row64 w A n az) (i1 : Row64 w B m xs) :
    Calls Try.prog 4 #[.agg #[.int .i64 r, .int .i64 c, .slice A n cp], .slice B m cq] w fun e w' => e = .returned (.bool true) ∧ Below w.heap.size w w' := by
  obtain ⟨_, _, _, hA, ha⟩ := i0
  by_cases h : n ≤ 200 ∧ m ≤ 200
  · by_cases hM : MatOk r c n
    · obtain ⟨r', rfl⟩ := Int.eq_ofNat_of_zero_le (show 0 ≤ r by have := hM.1; omega)
      obtain ⟨c', rfl⟩ := Int.eq_ofNat_of_zero_le (show 0 ≤ c by have := hM.2.1; omega)
      by_cases h1 : m = c'
      · by_cases h2 : m = r'
        · exact vmats_tt r' c' A B n cp m cq az xs w h.1 h.2 hA i1.1 ha i1.2 hM h1 h2
        · exact vmats_tf r' c' A B n cp m cq az xs w h.1 h.2 hA i1.1 ha i1.2 hM (fun e => h2 (by omega)) h1
      · by_cases h2 : m = r'
        · exact vmats_ft r' c' A B n cp m cq az xs w h.1 h.2 hA i1.1 ha i1.2 hM (fun e => h1 (by omega)) h2
        · exact vmats_ff r' c' A B n cp m cq az xs w h.1 h.2 hA i1.1 ha i1.2 hM (fun e => h1 (by omega)) (fun e => h2 (by omega))
    · exact vmats_no r c A B n cp m cq az xs w h.1 h.2 hA i1.1 ha i1.2 hM (fun e => hM e.1) (fun e => hM e.1)
  · have AW := Lib.hid (fun W => awake4_any W)
    have T1 := Lib.hid (decide_eq_false h)
    clear h
    go_enter Try.func4, Try.ntmps4
    go_wp2_with (first
      | (go_at_call 13; refine (AW.out _).mono ?_; rintro e w1 ⟨rfl, hb1⟩; obtain ⟨hc1, hf1, hz1⟩ := bcell hb1; (try simp at hz1); (try have : w.heap.size < w1.heap.size := by omega); (try have : w.heap.size + 1 < w1.heap.size := by omega); (try have : w.heap.size + 1 + 1 < w1.heap.size := by omega); (try have : w.heap.size + 1 + 1 + 1 < w1.heap.size := by omega); (try have : g < w1.heap.size := by omega); (try have : ga < w1.heap.size := by omega); (try have : gb < w1.heap.size := by omega); (try have : gc < w1.heap.size := by omega); have hB : Below w.heap.size w w1 := (by repeat (first | (with_reducible exact Below.refl _ _) | (with_reducible assumption) | (with_reducible refine Below.drew ?_) | (with_reducible refine Below.alloc ?_ ?_ _) | (with_reducible refine Below.setCell ?_ ?_ _) | (with_reducible refine Below.trans ?_ (Below.mono hb ?_)) | (with_reducible refine Below.trans ?_ (Below.mono hb1 ?_)) | (with_reducible refine Below.trans ?_ (Below.mono hb2 ?_)) | (with_reducible refine Below.trans ?_ (Below.mono hb3 ?_)) | (with_reducible refine Below.trans ?_ (Below.mono hb4 ?_)) | (with_reducible refine Below.trans ?_ (Below.mono hb5 ?_)) | (with_reducible refine Below.trans ?_ (Below.mono hb6 ?_)) | (with_reducible refine Below.trans ?_ (Below.mono hb7 ?_)) | (with_reducible refine Below.trans ?_ (Below.mono hb8 ?_)) | (with_reducible refine Below.trans ?_ (Below.mono hb9 ?_)) | (focus (first | omega | (simp; done) | (simp; omega))) | exact hB)))
      | (go_at_call 14; refine (few4_two A B n m cp cq _ _ (by simp) (by simp)).mono ?_; rw [T1.out]; rintro e w2 ⟨rfl, rfl⟩))
    go_ret
    exact ⟨rfl, (by repeat (first | (with_reducible exact Below.refl _ _) | (with_reducible assumption) | (with_reducible refine Below.drew ?_) | (with_reducible refine Below.alloc ?_ ?_ _) | (with_reducible refine Below.setCell ?_ ?_ _) | (with_reducible refine Below.trans ?_ (Below.mono hb ?_)) | (with_reducible refine Below.trans ?_ (Below.mono hb1 ?_)) | (with_reducible refine Below.trans ?_ (Below.mono hb2 ?_)) | (with_reducible refine Below.trans ?_ (Below.mono hb3 ?_)) | (with_reducible refine Below.trans ?_ (Below.mono hb4 ?_)) | (with_reducible refine Below.trans ?_ (Below.mono hb5 ?_)) | (with_reducible refine Below.trans ?_ (Below.mono hb6 ?_)) | (with_reducible refine Below.trans ?_ (Below.mono hb7 ?_)) | (with_reducible refine Below.trans ?_ (Below.mono hb8 ?_)) | (with_reducible refine Below.trans ?_ (Below.mono hb9 ?_)) | (focus (first | omega | (simp; done) | (simp; omega))) | exact hB))⟩
end Go.Proofs.Ytikjomekhnkgcaa
