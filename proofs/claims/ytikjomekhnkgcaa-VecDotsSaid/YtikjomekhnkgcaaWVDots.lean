import Derived.Test.YtikjomekhnkgcaaQT
import Derived.Test.YtikjomekhnkgcaaE2
import Derived.Test.YtikjomekhnkgcaaRowF
/- The law VecDots, walked. -/
namespace Go.Proofs.Ytikjomekhnkgcaa
open Go.RowKit
attribute [local go_sem ↓] Go.wp_at_zero Go.wp_at_succ

theorem gcell4 {w w1 : World} {H : Nat} (h : w.grownBy w1 (some H)) : (∀ b o, b < w.heap.size → ¬ b = H → w1.cell? ⟨b, o, none⟩ = w.cell? ⟨b, o, none⟩) ∧ w.heap.size ≤ w1.heap.size :=
  ⟨fun b o hb hn => gr_cell h hb (by simpa using hn), h.size⟩
/-- vec.Dot of any two, as one. -/
theorem vdot_both (A B : Option Addr) (n m cp cq : Nat) (xs ys : List Int) (hn : n ≤ 65536) (hm : m ≤ 65536) (ha : All64 xs) (hb0 : All64 ys) :
    ∃ dv ev c1 : Int, 0 ≤ c1 ∧ c1 ≤ 1 ∧ (∀ W G, Rd W none A n xs → Rd W none B m ys → Unt W (.pointer (some ⟨G, 0, none⟩)) (some G) 0 →
        Calls Try.prog 18 #[.pointer (some ⟨G, 0, none⟩), .slice A n cp, .slice B m cq] W fun e w' => e = .returned (.tuple #[.int .i64 dv, .int .i64 ev]) ∧ W.grownBy w' (some G) ∧ Unt w' (.pointer (some ⟨G, 0, none⟩)) (some G) c1) ∧
      ((n = m ∧ ev = 0 ∧ ∀ W g C D e1 e2, Rd W none C n xs → Rd W none D m ys → Unr W g 0 →
        Calls Try.prog 41 #[.pointer (some ⟨g, 0, none⟩), .slice C n e1, .slice D m e2] W fun e w' => e = .returned (.int .i64 dv) ∧ W.grownBy w' (some g) ∧ Unr w' g c1) ∨ (n ≠ m ∧ ev = 40 ∧ dv = 0 ∧ c1 = 0)) := by
  by_cases h : n = m
  · subst h
    have o1 := ov_01 (overI (rnd (dotI xs ys 0 1 n) 4294967296))
    refine ⟨_, 0, _, o1.1, o1.2, fun W G h1 h2 h3 => (vdot_any (.pointer (some ⟨G, 0, none⟩)) (some G) 0 A B n cp cq xs ys W hn h1 h2 ha hb0 h3 (by omega) (by omega)).mono fun e w' ⟨k1, k2, k3⟩ => ⟨k1, k2, by rw [Int.zero_add] at k3; exact k3⟩, .inl ⟨rfl, rfl, fun W g C D e1 e2 h1 h2 h3 => (rdot_any g 0 C D n e1 e2 xs ys W hn h1 h2 ha hb0 h3 (by omega) (by omega)).mono fun e w' ⟨k1, k2, k3⟩ => ⟨k1, k2, by rw [Int.zero_add] at k3; exact k3⟩⟩⟩
  · exact ⟨0, 40, 0, by omega, by omega, fun W G _ _ h3 => (vdot_shape A B n m cp cq _ W hn hm h).mono fun e w' ⟨k1, k2⟩ => ⟨k1, gr_below k2 _, h3.call k2⟩, .inr ⟨h, rfl, rfl, rfl⟩⟩
set_option maxHeartbeats 40000000 in
set_option maxRecDepth 100000 in
theorem vdots_main (A B : Option Addr) (n m cp cq : Nat) (xs ys : List Int) (w : World) (hn : n ≤ 200) (hm : m ≤ 200) (hA : Rd w none A n xs) (hB0 : Rd w none B m ys) (ha : All64 xs) (hb0 : All64 ys) :
    Calls Try.prog 8 #[.slice A n cp, .slice B m cq] w fun e w' => e = .returned (.bool true) ∧ Below w.heap.size w w' := by
  have AW := Lib.hid (fun W => awake4_any W)
  have T1 := Lib.hid (decide_eq_true (show n ≤ 200 ∧ m ≤ 200 from ⟨hn, hm⟩))
  have HA := Lib.hid hA
  have HB := Lib.hid hB0
  have g6 : n ≤ 65536 := by omega
  have g7 : m ≤ 65536 := by omega
  clear hA hB0
  obtain ⟨dv, ev, c1, o1, o1', DO0, HC0⟩ := vdot_both A B n m cp cq xs ys g6 g7 ha hb0
  have DO := Lib.hid DO0
  have HC := Lib.hid HC0
  clear DO0 HC0
  have o2 := ov_01 (overI (totI xs n))
  have SU := Lib.hid (fun W G h1 h3 => vsum_any (.pointer (some ⟨G, 0, none⟩)) (some G) c1 A n cp xs W g6 h1 ha h3 (by omega) (by omega))
  have RS := Lib.hid (fun W g C e1 h1 h3 => rsum_any g c1 C n e1 xs W g6 h1 ha h3 (by omega) (by omega))
  have MU := Lib.hid (fun W G hn0 h1 h3 => vmean_any (.pointer (some ⟨G, 0, none⟩)) (some G) (c1 + ov (overI (totI xs n))) A n cp xs W g6 hn0 h1 ha h3 (by omega) (by omega))
  have RM := Lib.hid (fun W g C e1 hn0 h1 h3 => rmean_any g (c1 + ov (overI (totI xs n))) C n e1 xs W g6 hn0 h1 ha h3 (by omega) (by omega))
  generalize clampI (quoI (totI xs n) n) = mv at *
  generalize ov (overI (quoI (totI xs n) n)) = c3 at *
  generalize clampI (totI xs n) = sv at *
  generalize ov (overI (totI xs n)) = c2 at *
  go_enter Try.func8, Try.ntmps8
  go_upto_region 6 with (first
    | (go_at_call 13; refine (AW.out _).mono ?_; rintro e w1 ⟨rfl, hb1⟩; obtain ⟨hc1, hf1, hz1⟩ := bcell hb1; (try simp at hz1); (try have : w.heap.size < w1.heap.size := by omega); (try have : w.heap.size + 1 < w1.heap.size := by omega); (try have : w.heap.size + 1 + 1 < w1.heap.size := by omega); (try have : w.heap.size + 1 + 1 + 1 < w1.heap.size := by omega); (try have : g < w1.heap.size := by omega); (try have : ga < w1.heap.size := by omega); (try have : gb < w1.heap.size := by omega); (try have : gc < w1.heap.size := by omega); have hB : Below w.heap.size w w1 := (by repeat (first | (with_reducible exact Below.refl _ _) | (with_reducible assumption) | (with_reducible refine Below.drew ?_) | (with_reducible refine Below.alloc ?_ ?_ _) | (with_reducible refine Below.setCell ?_ ?_ _) | (with_reducible refine Below.trans ?_ (Below.mono hb ?_)) | (with_reducible refine Below.trans ?_ (Below.mono hb1 ?_)) | (with_reducible refine Below.trans ?_ (Below.mono hb2 ?_)) | (with_reducible refine Below.trans ?_ (Below.mono hb3 ?_)) | (with_reducible refine Below.trans ?_ (Below.mono hb4 ?_)) | (with_reducible refine Below.trans ?_ (Below.mono hb5 ?_)) | (with_reducible refine Below.trans ?_ (Below.mono hb6 ?_)) | (with_reducible refine Below.trans ?_ (Below.mono hb7 ?_)) | (with_reducible refine Below.trans ?_ (Below.mono hb8 ?_)) | (with_reducible refine Below.trans ?_ (Below.mono hb9 ?_)) | (focus (first | omega | (simp; done) | (simp; omega))) | exact hB)))
    | (go_at_call 14; refine (few4_two A B n m cp cq _ _ (by simp) (by simp)).mono ?_; rw [T1.out]; rintro e w2 ⟨rfl, rfl⟩))
  refine at_world fun Wb hWb => ?_
  have tw : Two w Wb (w1.heap.size + 1) 0 := by
    subst hWb
    refine ⟨Unt.at_ ((Below.heap_alloc _ _ _ (by simp)).trans (newest_at _ _ (by simp))), newest_at _ _ (by simp), (by repeat (first | (with_reducible exact Below.refl _ _) | (with_reducible assumption) | (with_reducible refine Below.drew ?_) | (with_reducible refine Below.alloc ?_ ?_ _) | (with_reducible refine Below.setCell ?_ ?_ _) | (with_reducible refine Below.trans ?_ (Below.mono hb ?_)) | (with_reducible refine Below.trans ?_ (Below.mono hb1 ?_)) | (with_reducible refine Below.trans ?_ (Below.mono hb2 ?_)) | (with_reducible refine Below.trans ?_ (Below.mono hb3 ?_)) | (with_reducible refine Below.trans ?_ (Below.mono hb4 ?_)) | (with_reducible refine Below.trans ?_ (Below.mono hb5 ?_)) | (with_reducible refine Below.trans ?_ (Below.mono hb6 ?_)) | (with_reducible refine Below.trans ?_ (Below.mono hb7 ?_)) | (with_reducible refine Below.trans ?_ (Below.mono hb8 ?_)) | (with_reducible refine Below.trans ?_ (Below.mono hb9 ?_)) | (focus (first | omega | (simp; done) | (simp; omega))) | exact hB))⟩
  have hG : w.heap.size ≤ w1.heap.size + 1 := by omega
  clear hWb hb1 hc1 hf1 hB
  generalize w1.heap.size + 1 = G at *
  go_upto_region 7 with (go_at_call 18; refine (DO.out _ _ (HA.out.call tw.2.2) (HB.out.call tw.2.2) tw.1).mono ?_; rintro e w3 ⟨rfl, hg3, hU3⟩)
  have t3 := tw.left hg3 hU3 hG
  clear tw hg3 hU3
  obtain ⟨W0, hW0⟩ : ∃ W0 : World, W0 = w3 := ⟨_, rfl⟩
  obtain rfl : W0 = w3 := hW0
  obtain ⟨uW, vW, bW⟩ := t3
  have rA := HA.out.call bW
  have rB := HB.out.call bW
  obtain ⟨fv, hfv⟩ : ∃ fv : Int, (if n = m then (0 : Int) else 40) = fv := ⟨_, rfl⟩
  have FV := Lib.hid hfv
  clear hfv
  have tok1 : True := trivial
  go_upto_region 8 with (first
    | (go_at_call 24; have _t := tok1; refine (plain04_any A n cp xs _ (by omega) rA).mono ?_; rintro e x1 ⟨V1, rfl, hO1, hb1⟩; clear tok1 _t; obtain ⟨D1, e1, rfl, _⟩ := hO1.lenW HA.out.1; clear hO1)
    | (go_at_call 24; refine (plain04_any B m cq ys _ (by omega) (rB.call hb1)).mono ?_; rintro e x2 ⟨V2, rfl, hO2, hb2⟩; obtain ⟨D2, e2, rfl, _⟩ := hO2.lenW HB.out.1; clear hO2)
    | (go_at_call 32; refine (rpair_any D1 D2 n m e1 e2 _ g6 g7).mono ?_; rw [FV.out]; rintro e x3 ⟨rfl, hb3⟩; have hB3 := (hb1.trans (hb2.mono hb1.size)).trans (hb3.mono (hb1.trans (hb2.mono hb1.size)).size); clear hb1 hb2 hb3))
  have rA3 := rA.call hB3
  have rB3 := rB.call hB3
  have u3 := uW.call hB3
  have v3 := vW.call hB3
  have b3 := bW.trans (hB3.mono bW.size)
  have vc := cell_of_one v3
  have vl := v3.lt
  clear hB3 rA rB uW vW bW
  obtain ⟨X, hX⟩ : ∃ X : World, X = x3 := ⟨_, rfl⟩
  obtain rfl : X = x3 := hX
  go_upto_if 36 with (fail)
  go_cut [8] (fun _ w' => Unt w' (.pointer (some ⟨G, 0, none⟩)) (some G) c1 ∧ Unr w' (G + 1) c1 ∧ Below w.heap.size w w')
  case first =>
    rcases HC.out with ⟨rfl, rfl, RD0⟩ | ⟨hne, rfl, rfl, rfl⟩
    · have ef := FV.out
      rw [if_pos rfl] at ef
      subst ef
      have RD := Lib.hid RD0
      clear RD0 FV HC DO
      go_upto_region 11 with (fail)
      refine wp_region_any (by kernel_rfl) ?_
      change wpAny _ _ _ _ _ _ _ (World.drew _)
      refine wpAny_take (i := 0) rfl (by kernel_rfl) (by kernel_rfl) (by kernel_rfl) (fun _ _ _ h => h) (Or.inl ⟨by rfl, (fun w => by go_simp; try with_reducible rfl)⟩) ?_
      refine wpAny_take (i := 1) rfl (by kernel_rfl) (by kernel_rfl) (by kernel_rfl) (fun _ _ _ h => h) (Or.inl ⟨by rfl, (fun w => by go_simp; try with_reducible rfl)⟩) ?_
      refine wpAny_take (i := 2) rfl (by kernel_rfl) (by kernel_rfl) (by kernel_rfl) (fun _ _ _ h => h) (Or.inl ⟨by rfl, (fun w => by go_simp; try with_reducible rfl)⟩) ?_
      refine wpAny_take (i := 3) rfl (by kernel_rfl) (by kernel_rfl) (by kernel_rfl) (fun _ _ _ h => h) (Or.inl ⟨by rfl, (fun w => by go_simp; try with_reducible rfl)⟩) ?_
      refine wpAny_take (i := 4) rfl (by kernel_rfl) (by kernel_rfl) (by kernel_rfl) (fun _ _ _ h => h) (Or.inl ⟨by rfl, (fun w => by go_simp; try with_reducible rfl)⟩) ?_
      refine wpAny_take (i := 5) rfl (by kernel_rfl) (by kernel_rfl) (by kernel_rfl) (fun _ _ _ h => h) (Or.inl ⟨by rfl, (fun w => by go_simp; try with_reducible rfl)⟩) ?_
      refine wpAny_take (i := 7) rfl (by kernel_rfl) (by kernel_rfl) (by kernel_rfl) (fun _ _ _ h => h) (Or.inl ⟨by rfl, (fun w => by go_simp; try with_reducible rfl)⟩) ?_
      refine wpAny_ready (rs := [6]) (by kernel_rfl) (by simp) ?_
      refine AllReady.cons rfl (fun K hK => ?_) AllReady.nil
      go_simp
      go_at_call 24; refine (plain04_any A n cp xs _ (by omega) (rA3.call (by repeat (first | (with_reducible exact Below.refl _ _) | (with_reducible assumption) | (with_reducible refine Below.drew ?_) | (with_reducible refine Below.alloc ?_ ?_ _) | (with_reducible refine Below.setCell ?_ ?_ _) | (with_reducible refine Below.trans ?_ (Below.mono hb ?_)) | (with_reducible refine Below.trans ?_ (Below.mono hb1 ?_)) | (with_reducible refine Below.trans ?_ (Below.mono hb2 ?_)) | (with_reducible refine Below.trans ?_ (Below.mono hb3 ?_)) | (with_reducible refine Below.trans ?_ (Below.mono hb4 ?_)) | (with_reducible refine Below.trans ?_ (Below.mono hb5 ?_)) | (with_reducible refine Below.trans ?_ (Below.mono hb6 ?_)) | (with_reducible refine Below.trans ?_ (Below.mono hb7 ?_)) | (with_reducible refine Below.trans ?_ (Below.mono hb8 ?_)) | (with_reducible refine Below.trans ?_ (Below.mono hb9 ?_)) | (focus (first | omega | (simp; done) | (simp; omega))) | exact hB)))).mono ?_; rintro e y1 ⟨V1, rfl, hO1, hb1⟩; replace hb1 := undrew hb1; obtain ⟨D3, e3, rfl, r3⟩ := hO1.lenW HA.out.1; clear hO1
      go_simp
      refine hK _ _ ?_
      clear hK K
      refine wpAny_ready (rs := [8]) (by kernel_rfl) (by simp) ?_
      refine AllReady.cons rfl (fun K hK => ?_) AllReady.nil
      go_simp
      go_at_call 24; refine (plain04_any B _ cq ys _ (by omega) (rB3.call hb1)).mono ?_; rintro e y2 ⟨V2, rfl, hO2, hb2⟩; obtain ⟨D4, e4, rfl, r4⟩ := hO2.lenW HB.out.1; have hb12 := hb1.trans (hb2.mono hb1.size); clear hO2
      go_simp
      refine hK _ _ ?_
      clear hK K
      refine wpAny_ready (rs := [9]) (by kernel_rfl) (by simp) ?_
      refine AllReady.cons rfl (fun K hK => ?_) AllReady.nil
      go_simp
      go_at_call 41; refine (RD.out _ (G + 1) D3 D4 e3 e4 (r3.call hb2) r4 (v3.call hb12)).mono ?_; rintro e y3 ⟨rfl, hg3, hU3⟩; have u4 := (u3.call hb12).grown hg3 (by rintro _ ⟨⟩; simp); have vd := cell_of_one hU3; have b4 := (b3.trans (hb12.mono b3.size)).trans (gr_new hg3 (b3.trans (hb12.mono b3.size)).size (by omega)); obtain ⟨hc3, hy3⟩ := gcell4 hg3; have pc := fun n : Pack y3 => pack_cell vd hU3.lt n
      go_simp
      refine hK _ _ ?_
      clear hK K
      refine wpAny_pack 10 _ (by kernel_rfl) (by rfl) rfl (by kernel_rfl) ?_
      conv => arg 5; simp only [List.drop_succ_cons, List.drop_zero]
      repeat (first | go_big_quiet_skip | (go_big_quiet_want; go_big_quiet_op; first | go_big_quiet_on | (apply Exists.intro; refine ⟨fun npk => ?_, ?_⟩; (focus (first | exact pack_call (ucnt G (c1) _ (u4.call npk.ok)))); go_big_quiet_on)))
      refine wpQuiet_nil ?_
      intro nq
      refine wpAny_done (by kernel_rfl) ?_ _
      go_wp2_with fail
      go_meet
      case rel => exact ⟨u4.call nq.ok, hU3.call nq.ok, b4.trans (nq.ok.mono b4.size)⟩
    · have ef := FV.out
      rw [if_neg hne] at ef
      subst ef
      clear FV HC DO hne
      go_wp2_with (go_at_call 28; refine (ucount_any _ (some G) 0 _ u3).mono ?_; rw [if_neg (by simp)]; rintro e y4 ⟨rfl, rfl⟩)
      go_meet
      case rel => exact ⟨u3, v3, b3⟩
  case rest =>
  obtain ⟨u5, v5, b5⟩ := hcut
  clear rA3 rB3 u3 v3 b3 vc vl DO HC FV
  go_upto_region 14 with (go_at_call 39; refine (SU.out _ G (HA.out.call b5) u5).mono ?_; rintro e z3 ⟨rfl, hg3, hU3⟩)
  have t3 := Two.left (w := w) ⟨u5, v5, b5⟩ hg3 hU3 hG
  clear u5 v5 b5 hg3 hU3
  obtain ⟨u6, v6, b6⟩ := t3
  obtain ⟨Y, hY⟩ : ∃ Y : World, Y = z3 := ⟨_, rfl⟩
  obtain rfl : Y = z3 := hY
  have rA6 := HA.out.call b6
  have vc6 := cell_of_one v6
  have vl6 := v6.lt
  go_cut [94] (fun v w' => v = .bool false ∧ Unt w' (.pointer (some ⟨G, 0, none⟩)) (some G) (c1 + c2) ∧ Unr w' (G + 1) (c1 + c2) ∧ Below w.heap.size w w')
  case first =>
    refine wp_region_any (by kernel_rfl) ?_
    change wpAny _ _ _ _ _ _ _ (World.drew _)
    refine wpAny_take (i := 0) rfl (by kernel_rfl) (by kernel_rfl) (by kernel_rfl) (fun _ _ _ h => h) (Or.inl ⟨by rfl, (fun w => by go_simp; try with_reducible rfl)⟩) ?_
    refine wpAny_take (i := 1) rfl (by kernel_rfl) (by kernel_rfl) (by kernel_rfl) (fun _ _ _ h => h) (Or.inl ⟨by rfl, (fun w => by go_simp; try with_reducible rfl)⟩) ?_
    refine wpAny_take (i := 2) rfl (by kernel_rfl) (by kernel_rfl) (by kernel_rfl) (fun _ _ _ h => h) (Or.inl ⟨by rfl, (fun w => by go_simp; try with_reducible rfl)⟩) ?_
    refine wpAny_take (i := 3) rfl (by kernel_rfl) (by kernel_rfl) (by kernel_rfl) (fun _ _ _ h => h) (Or.inl ⟨by rfl, (fun w => by go_simp; try with_reducible rfl)⟩) ?_
    refine wpAny_take (i := 4) rfl (by kernel_rfl) (by kernel_rfl) (by kernel_rfl) (fun _ _ _ h => h) (Or.inl ⟨by rfl, (fun w => by go_simp; try with_reducible rfl)⟩) ?_
    refine wpAny_take (i := 5) rfl (by kernel_rfl) (by kernel_rfl) (by kernel_rfl) (fun _ _ _ h => h) (Or.inl ⟨by rfl, (fun w => by go_simp; try with_reducible rfl)⟩) ?_
    refine wpAny_ready (rs := [6]) (by kernel_rfl) (by simp) ?_
    refine AllReady.cons rfl (fun K hK => ?_) AllReady.nil
    go_simp
    go_at_call 24; refine (plain04_any A n cp xs _ (by omega) (rA6.call (by repeat (first | (with_reducible exact Below.refl _ _) | (with_reducible assumption) | (with_reducible refine Below.drew ?_) | (with_reducible refine Below.alloc ?_ ?_ _) | (with_reducible refine Below.setCell ?_ ?_ _) | (with_reducible refine Below.trans ?_ (Below.mono hb ?_)) | (with_reducible refine Below.trans ?_ (Below.mono hb1 ?_)) | (with_reducible refine Below.trans ?_ (Below.mono hb2 ?_)) | (with_reducible refine Below.trans ?_ (Below.mono hb3 ?_)) | (with_reducible refine Below.trans ?_ (Below.mono hb4 ?_)) | (with_reducible refine Below.trans ?_ (Below.mono hb5 ?_)) | (with_reducible refine Below.trans ?_ (Below.mono hb6 ?_)) | (with_reducible refine Below.trans ?_ (Below.mono hb7 ?_)) | (with_reducible refine Below.trans ?_ (Below.mono hb8 ?_)) | (with_reducible refine Below.trans ?_ (Below.mono hb9 ?_)) | (focus (first | omega | (simp; done) | (simp; omega))) | exact hB)))).mono ?_; rintro e y1 ⟨V1, rfl, hO1, hb1⟩; replace hb1 := undrew hb1; obtain ⟨D3, e3, rfl, r3⟩ := hO1.lenW HA.out.1; clear hO1
    go_simp
    refine hK _ _ ?_
    clear hK K
    refine wpAny_ready (rs := [7]) (by kernel_rfl) (by simp) ?_
    refine AllReady.cons rfl (fun K hK => ?_) AllReady.nil
    go_simp
    go_at_call 42; refine (RS.out _ (G + 1) D3 e3 r3 (v6.call hb1)).mono ?_; rintro e y3 ⟨rfl, hg3, hU3⟩; have u4 := (u6.call hb1).grown hg3 (by rintro _ ⟨⟩; simp); have vd := cell_of_one hU3; have b4 := (b6.trans (hb1.mono b6.size)).trans (gr_new hg3 (b6.trans (hb1.mono b6.size)).size (by omega)); obtain ⟨hc3, hy3⟩ := gcell4 hg3; have pc := fun n : Pack y3 => pack_cell vd hU3.lt n
    go_simp
    refine hK _ _ ?_
    clear hK K
    refine wpAny_pack 8 _ (by kernel_rfl) (by rfl) rfl (by kernel_rfl) ?_
    conv => arg 5; simp only [List.drop_succ_cons, List.drop_zero]
    repeat (first | go_big_quiet_skip | (go_big_quiet_want; go_big_quiet_op; first | go_big_quiet_on | (apply Exists.intro; refine ⟨fun npk => ?_, ?_⟩; (focus (first | exact pack_call (ucnt G (c1 + c2) _ (u4.call npk.ok)))); go_big_quiet_on)))
    refine wpQuiet_nil ?_
    intro nq
    refine wpAny_done (by kernel_rfl) ?_ _
    go_wp2_with fail
    go_meet
    case rel => exact ⟨rfl, u4.call nq.ok, hU3.call nq.ok, b4.trans (nq.ok.mono b4.size)⟩
  case rest =>
  obtain ⟨rfl, u5, v5, b5⟩ := hcut
  clear rA6 vc6 vl6 u6 v6 b6 SU RS
  by_cases hz : n = 0
  · subst hz
    go_upto_region 18 with (go_at_call 40; refine (vmean_none _ A cp _).mono ?_; rintro e z3 ⟨rfl, hb3⟩)
    have u6 := u5.call hb3
    have v6 := v5.call hb3
    have b6 := b5.trans (hb3.mono b5.size)
    have vc6 := cell_of_one v6
    have vl6 := v6.lt
    obtain ⟨Y, hY⟩ : ∃ Y : World, Y = z3 := ⟨_, rfl⟩
    obtain rfl : Y = z3 := hY
    clear hb3 u5 v5 b5
    have pc := fun n : Pack Y => pack_cell vc6 vl6 n
    refine wp_region_pack (by kernel_rfl) (by kernel_rfl) ?_
    repeat (first | go_big_quiet_skip | (go_big_quiet_want; go_big_quiet_op; first | go_big_quiet_on | (apply Exists.intro; refine ⟨fun npk => ?_, ?_⟩; (focus (first | exact pack_call (ucnt G (c1 + c2) _ (u6.call npk.ok)))); go_big_quiet_on)))
    refine wpQuiet_nil ?_
    intro nq
    go_wp2_with fail
    go_ret
    exact ⟨rfl, b6.trans (nq.ok.mono b6.size)⟩
  · have hn0 : 0 < n := by omega
    have hz' : ((n : Int) == 0) = false := beq_eq_false_iff_ne.mpr (by omega)
    go_upto_region 19 with (go_at_call 40; refine (MU.out _ G hn0 (HA.out.call b5) u5).mono ?_; rintro e z3 ⟨rfl, hg3, hU3⟩)
    have t3 := Two.left (w := w) ⟨u5, v5, b5⟩ hg3 hU3 hG
    clear u5 v5 b5 hg3 hU3
    obtain ⟨u6, v6, b6⟩ := t3
    obtain ⟨Y, hY⟩ : ∃ Y : World, Y = z3 := ⟨_, rfl⟩
    obtain rfl : Y = z3 := hY
    have rA6 := HA.out.call b6
    have vc6 := cell_of_one v6
    have vl6 := v6.lt
    refine wp_region_any (by kernel_rfl) ?_
    change wpAny _ _ _ _ _ _ _ (World.drew _)
    refine wpAny_take (i := 0) rfl (by kernel_rfl) (by kernel_rfl) (by kernel_rfl) (fun _ _ _ h => h) (Or.inl ⟨by rfl, (fun w => by go_simp; try with_reducible rfl)⟩) ?_
    refine wpAny_take (i := 1) rfl (by kernel_rfl) (by kernel_rfl) (by kernel_rfl) (fun _ _ _ h => h) (Or.inl ⟨by rfl, (fun w => by go_simp; try with_reducible rfl)⟩) ?_
    refine wpAny_take (i := 2) rfl (by kernel_rfl) (by kernel_rfl) (by kernel_rfl) (fun _ _ _ h => h) (Or.inl ⟨by rfl, (fun w => by go_simp; try with_reducible rfl)⟩) ?_
    refine wpAny_take (i := 3) rfl (by kernel_rfl) (by kernel_rfl) (by kernel_rfl) (fun _ _ _ h => h) (Or.inl ⟨by rfl, (fun w => by go_simp; try with_reducible rfl)⟩) ?_
    refine wpAny_take (i := 4) rfl (by kernel_rfl) (by kernel_rfl) (by kernel_rfl) (fun _ _ _ h => h) (Or.inl ⟨by rfl, (fun w => by go_simp; try with_reducible rfl)⟩) ?_
    refine wpAny_take (i := 5) rfl (by kernel_rfl) (by kernel_rfl) (by kernel_rfl) (fun _ _ _ h => h) (Or.inl ⟨by rfl, (fun w => by go_simp; try with_reducible rfl)⟩) ?_
    refine wpAny_ready (rs := [6]) (by kernel_rfl) (by simp) ?_
    refine AllReady.cons rfl (fun K hK => ?_) AllReady.nil
    go_simp
    go_at_call 24; refine (plain04_any A n cp xs _ (by omega) (rA6.call (by repeat (first | (with_reducible exact Below.refl _ _) | (with_reducible assumption) | (with_reducible refine Below.drew ?_) | (with_reducible refine Below.alloc ?_ ?_ _) | (with_reducible refine Below.setCell ?_ ?_ _) | (with_reducible refine Below.trans ?_ (Below.mono hb ?_)) | (with_reducible refine Below.trans ?_ (Below.mono hb1 ?_)) | (with_reducible refine Below.trans ?_ (Below.mono hb2 ?_)) | (with_reducible refine Below.trans ?_ (Below.mono hb3 ?_)) | (with_reducible refine Below.trans ?_ (Below.mono hb4 ?_)) | (with_reducible refine Below.trans ?_ (Below.mono hb5 ?_)) | (with_reducible refine Below.trans ?_ (Below.mono hb6 ?_)) | (with_reducible refine Below.trans ?_ (Below.mono hb7 ?_)) | (with_reducible refine Below.trans ?_ (Below.mono hb8 ?_)) | (with_reducible refine Below.trans ?_ (Below.mono hb9 ?_)) | (focus (first | omega | (simp; done) | (simp; omega))) | exact hB)))).mono ?_; rintro e y1 ⟨V1, rfl, hO1, hb1⟩; replace hb1 := undrew hb1; obtain ⟨D3, e3, rfl, r3⟩ := hO1.lenW HA.out.1; clear hO1
    go_simp
    refine hK _ _ ?_
    clear hK K
    refine wpAny_ready (rs := [7]) (by kernel_rfl) (by simp) ?_
    refine AllReady.cons rfl (fun K hK => ?_) AllReady.nil
    go_simp
    go_at_call 43; refine (RM.out _ (G + 1) D3 e3 hn0 r3 (v6.call hb1)).mono ?_; rintro e y3 ⟨rfl, hg3, hU3⟩; have u4 := (u6.call hb1).grown hg3 (by rintro _ ⟨⟩; simp); have vd := cell_of_one hU3; have b4 := (b6.trans (hb1.mono b6.size)).trans (gr_new hg3 (b6.trans (hb1.mono b6.size)).size (by omega)); obtain ⟨hc3, hy3⟩ := gcell4 hg3; have pc := fun n : Pack y3 => pack_cell vd hU3.lt n
    go_simp
    refine hK _ _ ?_
    clear hK K
    refine wpAny_pack 8 _ (by kernel_rfl) (by rfl) rfl (by kernel_rfl) ?_
    conv => arg 5; simp only [List.drop_succ_cons, List.drop_zero]
    repeat (first | go_big_quiet_skip | (go_big_quiet_want; go_big_quiet_op; first | go_big_quiet_on | (apply Exists.intro; refine ⟨fun npk => ?_, ?_⟩; (focus (first | exact pack_call (ucnt G (c1 + c2 + c3) _ (u4.call npk.ok)))); go_big_quiet_on)))
    refine wpQuiet_nil ?_
    intro nq
    refine wpAny_done (by kernel_rfl) ?_ _
    go_wp2_with fail
    go_ret
    exact ⟨rfl, b4.trans (nq.ok.mono b4.size)⟩
theorem vecDots_walk (A : Option Addr) (n cp : Nat) (xs : List Int) (B : Option Addr) (m cq : Nat) (ys : List Int) (w : World) (i0 : Row64 w A n xs) (i1 : Row64 w B m ys) :
    Calls Try.prog 8 #[.slice A n cp, .slice B m cq] w fun e w' => e = .returned (.bool true) ∧ Below w.heap.size w w' := by
  by_cases h : n ≤ 200 ∧ m ≤ 200
  · exact vdots_main A B n m cp cq xs ys w h.1 h.2 i0.1 i1.1 i0.2 i1.2
  · have AW := Lib.hid (fun W => awake4_any W)
    have T1 := Lib.hid (decide_eq_false h)
    clear h
    go_enter Try.func8, Try.ntmps8
    go_wp2_with (first
      | (go_at_call 13; refine (AW.out _).mono ?_; rintro e w1 ⟨rfl, hb1⟩; obtain ⟨hc1, hf1, hz1⟩ := bcell hb1; (try simp at hz1); (try have : w.heap.size < w1.heap.size := by omega); (try have : w.heap.size + 1 < w1.heap.size := by omega); (try have : w.heap.size + 1 + 1 < w1.heap.size := by omega); (try have : w.heap.size + 1 + 1 + 1 < w1.heap.size := by omega); (try have : g < w1.heap.size := by omega); (try have : ga < w1.heap.size := by omega); (try have : gb < w1.heap.size := by omega); (try have : gc < w1.heap.size := by omega); have hB : Below w.heap.size w w1 := (by repeat (first | (with_reducible exact Below.refl _ _) | (with_reducible assumption) | (with_reducible refine Below.drew ?_) | (with_reducible refine Below.alloc ?_ ?_ _) | (with_reducible refine Below.setCell ?_ ?_ _) | (with_reducible refine Below.trans ?_ (Below.mono hb ?_)) | (with_reducible refine Below.trans ?_ (Below.mono hb1 ?_)) | (with_reducible refine Below.trans ?_ (Below.mono hb2 ?_)) | (with_reducible refine Below.trans ?_ (Below.mono hb3 ?_)) | (with_reducible refine Below.trans ?_ (Below.mono hb4 ?_)) | (with_reducible refine Below.trans ?_ (Below.mono hb5 ?_)) | (with_reducible refine Below.trans ?_ (Below.mono hb6 ?_)) | (with_reducible refine Below.trans ?_ (Below.mono hb7 ?_)) | (with_reducible refine Below.trans ?_ (Below.mono hb8 ?_)) | (with_reducible refine Below.trans ?_ (Below.mono hb9 ?_)) | (focus (first | omega | (simp; done) | (simp; omega))) | exact hB)))
      | (go_at_call 14; refine (few4_two A B n m cp cq _ _ (by simp) (by simp)).mono ?_; rw [T1.out]; rintro e w2 ⟨rfl, rfl⟩))
    go_ret
    exact ⟨rfl, (by repeat (first | (with_reducible exact Below.refl _ _) | (with_reducible assumption) | (with_reducible refine Below.drew ?_) | (with_reducible refine Below.alloc ?_ ?_ _) | (with_reducible refine Below.setCell ?_ ?_ _) | (with_reducible refine Below.trans ?_ (Below.mono hb ?_)) | (with_reducible refine Below.trans ?_ (Below.mono hb1 ?_)) | (with_reducible refine Below.trans ?_ (Below.mono hb2 ?_)) | (with_reducible refine Below.trans ?_ (Below.mono hb3 ?_)) | (with_reducible refine Below.trans ?_ (Below.mono hb4 ?_)) | (with_reducible refine Below.trans ?_ (Below.mono hb5 ?_)) | (with_reducible refine Below.trans ?_ (Below.mono hb6 ?_)) | (with_reducible refine Below.trans ?_ (Below.mono hb7 ?_)) | (with_reducible refine Below.trans ?_ (Below.mono hb8 ?_)) | (with_reducible refine Below.trans ?_ (Below.mono hb9 ?_)) | (focus (first | omega | (simp; done) | (simp; omega))) | exact hB))⟩
end Go.Proofs.Ytikjomekhnkgcaa
