import Derived.Test.YtcdnkecgnfdfnaaWOSteps
/- The law OuterSteps, walked: what is made. -/
namespace Go.Proofs.Ytcdnkecgnfdfnaa
open Go.RowKit
attribute [local go_sem ↓] Go.wp_at_zero Go.wp_at_succ

section
variable {W0 w w1 : World} {H : Nat}
theorem sg_of (h : W0.grownBy w (some H)) : W0.grownBy w (some H) ∧ ∀ b o, b < W0.heap.size → ¬ b = H → w.cell? ⟨b, o, none⟩ = W0.cell? ⟨b, o, none⟩ :=
  ⟨h, fun _ _ hb hn => gr_cell h hb (by simpa using hn)⟩
theorem gcell (h : w.grownBy w1 (some H)) : (∀ b o, b < w.heap.size → ¬ b = H → w1.cell? ⟨b, o, none⟩ = w.cell? ⟨b, o, none⟩) ∧ (∀ b o, b < w.heap.size → ¬ b = H → w1.frozen? ⟨b, o, none⟩ = w.frozen? ⟨b, o, none⟩) ∧ w.heap.size ≤ w1.heap.size :=
  ⟨fun b o hb hn => gr_cell h hb (by simpa using hn), fun b o hb hn => World.grownBy.frozen_far h ⟨b, o, none⟩ hb (by simpa using hn), h.size⟩
end
theorem u_of {a b : World} {u : Option Nat} (h : a.grownBy b u) : a.grownBy b u := h
theorem Unr.set {w : World} {g : Nat} {c : Int} (h : Unr w g c) {p : Addr} (hp : g ≠ p.block) (v : Value) : Unr (w.setCell p v) g c := (Below.heap_setCell w p v g hp).trans h
def StepsCut (W0 : World) (H n : Nat) (c : Int) (ps bs : List Int) (v : Value) (w' : World) : Prop :=
  ∃ (T : Nat) (AP AB : Option Addr) (cP cB : Nat), v = .pointer (some ⟨T, 0, none⟩) ∧ w'.cell? ⟨T, 0, none⟩ = some (.slice AP n cP) ∧ w'.cell? ⟨T, 1, none⟩ = some (.slice AB n cB) ∧ T < w'.heap.size ∧ ¬ T = H ∧ Rd w' none AP n ps ∧ Rd w' none AB n bs ∧ W0.grownBy w' (some H) ∧ Unr w' H c
set_option maxHeartbeats 4000000 in
set_option maxRecDepth 100000 in
theorem osteps_main (A B C : Option Addr) (n cp cq cr : Nat) (r m : Int) (ps bs gs : List Int) (w : World) (hn : n ≤ 200) (hr : 0 ≤ r) (hr1 : r < 9223372036854775808) (hm : 0 ≤ m) (hm1 : m < 4294967296)
    (hA : Rd w none A n ps) (hB0 : Rd w none B n bs) (hC : Rd w none C n gs) (hp : All64 ps) (hbs : All64 bs) (hgs : All64 gs) :
    Calls Try.prog 4 #[.agg #[.int .i64 r, .int .i64 m], .agg #[.slice A n cp, .slice B n cq], .slice C n cr] w fun e w' => e = .returned (.bool true) ∧ Below w.heap.size w w' := by
  have hn0 : ∀ (B g : Nat), none = some g → g < B := by intro B g e; cases e
  have AW := Lib.hid (fun W => awake10_any W)
  have FW := Lib.hid (fun W => few10_any A B C n n n cp cq cr W)
  rw [decide_eq_true ⟨hn, hn, hn⟩] at FW
  have RG := Lib.hid (fun W => right10_any r m W)
  have e0 : (decide (0 ≤ r) && (decide (0 ≤ m) && decide (m < 4294967296))) = true := by simp; omega
  rw [e0] at RG
  have lp := Lib.hid hA.1
  have lb := Lib.hid hB0.1
  have lg := Lib.hid hC.1
  have lo := Lib.hid (rowI_length (axV m bs gs) n)
  have lq := Lib.hid (rowI_length (axV (-r) (odV m bs gs n) ps) n)
  have q1 := cntI_bound (axV m bs gs) n
  have q2 := cntI_bound (axV m (obV m bs gs n) gs) n
  have q3 := cntI_bound (axV (-r) (odV m bs gs n) ps) n
  clear e0
  go_enter Try.func4, Try.ntmps4
  go_wp2_with (first
    | (go_at_call 8; refine (AW.out _).mono ?_; rintro e w1 ⟨rfl, hb1⟩; obtain ⟨hc1, hf1, hz1⟩ := bcell hb1; (try simp at hz1); (try have : w.heap.size < w1.heap.size := by omega); (try have : w.heap.size + 1 < w1.heap.size := by omega); (try have : w.heap.size + 1 + 1 < w1.heap.size := by omega); (try have : w.heap.size + 1 + 1 + 1 < w1.heap.size := by omega); (try have : g < w1.heap.size := by omega); (try have : ga < w1.heap.size := by omega); (try have : gb < w1.heap.size := by omega); (try have : gc < w1.heap.size := by omega); have hB : Below w.heap.size w w1 := (by repeat (first | (with_reducible exact Below.refl _ _) | (with_reducible assumption) | (with_reducible refine Below.drew ?_) | (with_reducible refine Below.alloc ?_ ?_ _) | (with_reducible refine Below.setCell ?_ ?_ _) | (with_reducible refine Below.trans ?_ (Below.mono hb ?_)) | (with_reducible refine Below.trans ?_ (Below.mono hb1 ?_)) | (with_reducible refine Below.trans ?_ (Below.mono hb2 ?_)) | (with_reducible refine Below.trans ?_ (Below.mono hb3 ?_)) | (with_reducible refine Below.trans ?_ (Below.mono hb4 ?_)) | (with_reducible refine Below.trans ?_ (Below.mono hb5 ?_)) | (with_reducible refine Below.trans ?_ (Below.mono hb6 ?_)) | (with_reducible refine Below.trans ?_ (Below.mono hb7 ?_)) | (with_reducible refine Below.trans ?_ (Below.mono hb8 ?_)) | (with_reducible refine Below.trans ?_ (Below.mono hb9 ?_)) | (focus (first | omega | (simp; done) | (simp; omega))) | exact hB)))
    | (go_at_call 11; refine (FW.out _).mono ?_; rintro e w2 ⟨rfl, hb2⟩; obtain ⟨hc2, hf2, hz2⟩ := bcell hb2; (try simp at hz2); (try have : w.heap.size < w2.heap.size := by omega); (try have : w.heap.size + 1 < w2.heap.size := by omega); (try have : w.heap.size + 1 + 1 < w2.heap.size := by omega); (try have : w.heap.size + 1 + 1 + 1 < w2.heap.size := by omega); (try have : w1.heap.size < w2.heap.size := by omega); (try have : w1.heap.size + 1 < w2.heap.size := by omega); (try have : w1.heap.size + 1 + 1 < w2.heap.size := by omega); (try have : w1.heap.size + 1 + 1 + 1 < w2.heap.size := by omega); (try have : g < w2.heap.size := by omega); (try have : ga < w2.heap.size := by omega); (try have : gb < w2.heap.size := by omega); (try have : gc < w2.heap.size := by omega); have hB : Below w.heap.size w w2 := (by repeat (first | (with_reducible exact Below.refl _ _) | (with_reducible assumption) | (with_reducible refine Below.drew ?_) | (with_reducible refine Below.alloc ?_ ?_ _) | (with_reducible refine Below.setCell ?_ ?_ _) | (with_reducible refine Below.trans ?_ (Below.mono hb ?_)) | (with_reducible refine Below.trans ?_ (Below.mono hb1 ?_)) | (with_reducible refine Below.trans ?_ (Below.mono hb2 ?_)) | (with_reducible refine Below.trans ?_ (Below.mono hb3 ?_)) | (with_reducible refine Below.trans ?_ (Below.mono hb4 ?_)) | (with_reducible refine Below.trans ?_ (Below.mono hb5 ?_)) | (with_reducible refine Below.trans ?_ (Below.mono hb6 ?_)) | (with_reducible refine Below.trans ?_ (Below.mono hb7 ?_)) | (with_reducible refine Below.trans ?_ (Below.mono hb8 ?_)) | (with_reducible refine Below.trans ?_ (Below.mono hb9 ?_)) | (focus (first | omega | (simp; done) | (simp; omega))) | exact hB))))
  have bR1 : w2.heap[w.heap.size]? = some (.cells #[.int .i64 r, .int .i64 m] 24 (0, 0)) :=
    (hb2.block _ (by omega)).trans ((hb1.block _ (by simp; omega)).trans ((Below.heap_alloc _ _ _ (by simp)).trans (heap_alloc_new w _)))
  have bO1 : w2.heap[w.heap.size + 1]? = some (.cells #[.slice A n cp, .slice B n cq] 28 (0, 0)) :=
    (hb2.block _ (by omega)).trans ((hb1.block _ (by simp)).trans (newest_at _ _ (by simp)))
  refine at_calls fun Wb hWb => ?_
  have un : Unt Wb (.pointer (some ⟨w2.heap.size, 0, none⟩)) (some w2.heap.size) 0 := by subst hWb; exact Unt.at_ ((Below.heap_alloc _ _ _ (by simp)).trans (heap_alloc_new w2 _))
  have vn : Unr Wb (w2.heap.size + 1) 0 := by subst hWb; exact newest_at _ _ (by simp)
  have BK : Below w2.heap.size w2 Wb := by subst hWb; exact (by repeat (first | (with_reducible exact Below.refl _ _) | (with_reducible assumption) | (with_reducible refine Below.drew ?_) | (with_reducible refine Below.alloc ?_ ?_ _) | (with_reducible refine Below.setCell ?_ ?_ _) | (with_reducible refine Below.trans ?_ (Below.mono hb ?_)) | (with_reducible refine Below.trans ?_ (Below.mono hb1 ?_)) | (with_reducible refine Below.trans ?_ (Below.mono hb2 ?_)) | (with_reducible refine Below.trans ?_ (Below.mono hb3 ?_)) | (with_reducible refine Below.trans ?_ (Below.mono hb4 ?_)) | (with_reducible refine Below.trans ?_ (Below.mono hb5 ?_)) | (with_reducible refine Below.trans ?_ (Below.mono hb6 ?_)) | (with_reducible refine Below.trans ?_ (Below.mono hb7 ?_)) | (with_reducible refine Below.trans ?_ (Below.mono hb8 ?_)) | (with_reducible refine Below.trans ?_ (Below.mono hb9 ?_)) | (focus (first | omega | (simp; done) | (simp; omega))) | exact hB))
  have BWb : Below w.heap.size w Wb := hB.trans (BK.mono hB.size)
  have bR := (BK.block _ (lt_of_block bR1)).trans bR1
  have bO := (BK.block _ (lt_of_block bO1)).trans bO1
  have g1 := lt_of_block bO1
  clear hWb hc1 hf1 hc2 hf2 hb1 hb2 hB bR1 bO1 AW FW BK
  generalize w2.heap.size = G at *
  have hv1 : ∀ v : Nat, w.heap.size ≤ v → ∀ g, some v = some g → w.heap.size ≤ g := by rintro v hv g ⟨⟩; exact hv
  have aG := (hA.unit (hv1 G (by omega))).call BWb
  have bG := (hB0.unit (hv1 G (by omega))).call BWb
  have cG := (hC.unit (hv1 G (by omega))).call BWb
  refine (ostep_any A B C n cp cq cr ps bs gs _ (some G) 0 r m Wb hr hr1 hm hm1 (by omega) hp hbs hgs aG bG cG un (by omega) (by omega)).mono ?_
  rintro e w3 ⟨VP, VB, rfl, hP, hZ, hG, hUn⟩
  rw [Int.zero_add] at hUn
  have z3 := hG.size
  have zb := BWb.size
  have hHb := vn.lt
  have vn3 := vn.grown hG (by simp)
  obtain ⟨AP, cP, rfl, rP⟩ := hP.len (u := some (G + 1)) lq.out (by rintro _ ⟨⟩; exact hHb)
  obtain ⟨AB, cB, rfl, rB⟩ := hZ.len (u := some (G + 1)) lo.out (by rintro _ ⟨⟩; exact hHb)
  have bR3 := (hG.block _ (lt_of_block bR) (by simp; omega)).trans bR
  have bO3 := (hG.block _ (lt_of_block bO) (by simp; omega)).trans bO
  have BW3 : Below w.heap.size w w3 := BWb.trans (gr_new hG (B := w.heap.size) zb (by omega))
  have aN := (hA.unit (hv1 (G + 1) (by omega))).call BW3
  have bN_ := (hB0.unit (hv1 (G + 1) (by omega))).call BW3
  have cN := (hC.unit (hv1 (G + 1) (by omega))).call BW3
  have r30 := cell_of_row w3 w.heap.size 0 _ _ _ bR3
  have r31 := cell_of_row w3 w.heap.size 1 _ _ _ bR3
  have o30 := cell_of_row w3 (w.heap.size + 1) 0 _ _ _ bO3
  have o31 := cell_of_row w3 (w.heap.size + 1) 1 _ _ _ bO3
  simp only [List.getElem?_toArray, List.getElem?_cons_zero, List.getElem?_cons_succ] at r30 r31 o30 o31
  have lR := lt_of_block bR3
  have lO := lt_of_block bO3
  clear hP hZ aG bG cG un vn BWb hG hA hB0 hC bR bO bR3 bO3 hv1
  go_wp2_with (go_at_call 12; refine (RG.out _).mono ?_; rintro e w4 ⟨rfl, hb4⟩; obtain ⟨hc4, hf4, hz4⟩ := bcell hb4; have k1 : w.heap.size < w3.heap.size + 1 := (by omega); have k2 : w.heap.size + 1 < w3.heap.size + 1 := (by omega))
  have bN := (hb4.block w3.heap.size (by simp)).trans (heap_alloc_new w3 _)
  have BK4 : Below w3.heap.size w3 w4 := (by repeat (first | (with_reducible exact Below.refl _ _) | (with_reducible assumption) | (with_reducible refine Below.drew ?_) | (with_reducible refine Below.alloc ?_ ?_ _) | (with_reducible refine Below.setCell ?_ ?_ _) | (with_reducible refine Below.trans ?_ (Below.mono hb ?_)) | (with_reducible refine Below.trans ?_ (Below.mono hb1 ?_)) | (with_reducible refine Below.trans ?_ (Below.mono hb2 ?_)) | (with_reducible refine Below.trans ?_ (Below.mono hb3 ?_)) | (with_reducible refine Below.trans ?_ (Below.mono hb4 ?_)) | (with_reducible refine Below.trans ?_ (Below.mono hb5 ?_)) | (with_reducible refine Below.trans ?_ (Below.mono hb6 ?_)) | (with_reducible refine Below.trans ?_ (Below.mono hb7 ?_)) | (with_reducible refine Below.trans ?_ (Below.mono hb8 ?_)) | (with_reducible refine Below.trans ?_ (Below.mono hb9 ?_)) | (focus (first | omega | (simp; done) | (simp; omega))) | exact hB))
  have r40 := (BK4.cell (p := ⟨w.heap.size, 0, none⟩) lR).trans r30
  have r41 := (BK4.cell (p := ⟨w.heap.size, 1, none⟩) lR).trans r31
  have o40 := (BK4.cell (p := ⟨w.heap.size + 1, 0, none⟩) lO).trans o30
  have o41 := (BK4.cell (p := ⟨w.heap.size + 1, 1, none⟩) lO).trans o31
  have aN4 := aN.call BK4
  have bN4 := bN_.call BK4
  have cN4 := cN.call BK4
  have rP4 := rP.call BK4
  have rB4 := rB.call BK4
  have un4 := hUn.call BK4
  have vn4 := vn3.call BK4
  have z4 := BK4.size
  have BW4 : Below w.heap.size w w4 := BW3.trans (BK4.mono (by omega))
  have lN := lt_of_block bN
  have n40 := cell_of_row w4 w3.heap.size 0 _ _ _ bN
  have n41 := cell_of_row w4 w3.heap.size 1 _ _ _ bN
  simp only [List.getElem?_toArray, List.getElem?_cons_zero, List.getElem?_cons_succ] at n40 n41
  have lH := vn4.lt
  have hN3 : G + 1 < w3.heap.size := vn3.lt
  have hw3 : w.heap.size + 1 < w3.heap.size := lO
  clear hb4 hc4 hf4 hz4 bN aN bN_ cN rP rB hUn vn3 r30 r31 o30 o31 BW3 BK4 lR lO k1 k2 hz1 hz2 RG
  generalize w3.heap.size = N9 at *
  have tok1 : True := trivial
  have tok2 : True := trivial
  obtain ⟨W0, hW0⟩ : ∃ W0, W0 = w4 := ⟨_, rfl⟩
  obtain rfl : W0 = w4 := hW0
  have hs := World.grownBy.refl W0 (some (G + 1))
  have m1 : ¬ w.heap.size = G + 1 := by omega
  have m2 : ¬ w.heap.size = G := by omega
  have m3 : w.heap.size < W0.heap.size := by omega
  have m4 : w.heap.size + 1 < W0.heap.size := by omega
  go_wp2_with fail
  go_cut [12] (fun v w' => StepsCut W0 (G + 1) n (ocN r m ps bs gs n) (opV r m ps bs gs n) (obV m bs gs n) v w')
  case first =>
    go_region_held3 (fun w' => W0.grownBy w' (some (G + 1)) ∧ ∀ b o, b < W0.heap.size → ¬ b = G + 1 → w'.cell? ⟨b, o, none⟩ = W0.cell? ⟨b, o, none⟩) ((first | exact sg_of hs | exact sg_of (gr_trans hs hg) | exact sg_of (gr_call hs hb) | exact sg_of (gr_drew hs) | exact sg_of (gr_alloc hs _) | exact sg_of (by repeat (first | (with_reducible assumption) | (with_reducible exact World.grownBy.refl _ _) | (with_reducible refine gr_drew ?_) | (with_reducible refine gr_alloc ?_ _) | (with_reducible refine gr_set ?_ ?_ _) | (focus (first | omega | (simp; done) | (simp; omega)))))))
      (first
        | (go_at_call 15; have _t := tok1; refine (plain10_any A n cp ps _ (by omega) (aN4.grown (by repeat (first | (with_reducible exact World.grownBy.refl _ _) | (with_reducible assumption) | (with_reducible refine gr_drew ?_) | (with_reducible refine gr_alloc ?_ _)))).noone2).mono ?_; rintro e x1 ⟨V1, rfl, hO1, hb1⟩; clear tok1 _t; have hs : W0.grownBy x1 (some (G + 1)) := gr_call (by repeat (first | (with_reducible exact World.grownBy.refl _ _) | (with_reducible assumption) | (with_reducible refine gr_drew ?_) | (with_reducible refine gr_alloc ?_ _))) hb1; obtain ⟨hc1, hf1, hy1⟩ := bcell hb1; (try simp at hy1); (try have : W0.heap.size < x1.heap.size := by omega); (try have : W0.heap.size < x1.heap.size + 1 := by omega); have hO1 := hO1.base (B := W0.heap.size) (World.grownBy.size (u_of (u := some (G + 1)) (by repeat (first | (with_reducible exact World.grownBy.refl _ _) | (with_reducible assumption) | (with_reducible refine gr_drew ?_) | (with_reducible refine gr_alloc ?_ _))))); obtain ⟨A1, c1, rfl, _⟩ := hO1.len (u := none) lp.out (hn0 _))
        | (go_at_call 15; have _t := tok2; refine (plain10_any B n cq bs _ (by omega) (bN4.grown (by repeat (first | (with_reducible exact World.grownBy.refl _ _) | (with_reducible assumption) | (with_reducible refine gr_drew ?_) | (with_reducible refine gr_alloc ?_ _)))).noone2).mono ?_; rintro e x2 ⟨V2, rfl, hO2, hb2⟩; clear tok2 _t; have hs : W0.grownBy x2 (some (G + 1)) := gr_call (by repeat (first | (with_reducible exact World.grownBy.refl _ _) | (with_reducible assumption) | (with_reducible refine gr_drew ?_) | (with_reducible refine gr_alloc ?_ _))) hb2; obtain ⟨hc2, hf2, hy2⟩ := bcell hb2; (try simp at hy2); (try have : W0.heap.size < x2.heap.size := by omega); (try have : W0.heap.size < x2.heap.size + 1 := by omega); (try have : x1.heap.size < x2.heap.size := by omega); (try have : x1.heap.size < x2.heap.size + 1 := by omega); have hO2 := hO2.base (B := W0.heap.size) (World.grownBy.size (u_of (u := some (G + 1)) (by repeat (first | (with_reducible exact World.grownBy.refl _ _) | (with_reducible assumption) | (with_reducible refine gr_drew ?_) | (with_reducible refine gr_alloc ?_ _))))); obtain ⟨A2, c2, rfl, _⟩ := hO2.len (u := none) lb.out (hn0 _))
        | (go_at_call 15; refine (plain10_any C n cr gs _ (by omega) (cN4.grown (by repeat (first | (with_reducible exact World.grownBy.refl _ _) | (with_reducible assumption) | (with_reducible refine gr_drew ?_) | (with_reducible refine gr_alloc ?_ _)))).noone2).mono ?_; rintro e x3 ⟨V3, rfl, hO3, hb3⟩; have hs : W0.grownBy x3 (some (G + 1)) := gr_call (by repeat (first | (with_reducible exact World.grownBy.refl _ _) | (with_reducible assumption) | (with_reducible refine gr_drew ?_) | (with_reducible refine gr_alloc ?_ _))) hb3; obtain ⟨hc3, hf3, hy3⟩ := bcell hb3; (try simp at hy3); (try have : W0.heap.size < x3.heap.size := by omega); (try have : W0.heap.size < x3.heap.size + 1 := by omega); (try have : x1.heap.size < x3.heap.size := by omega); (try have : x1.heap.size < x3.heap.size + 1 := by omega); (try have : x2.heap.size < x3.heap.size := by omega); (try have : x2.heap.size < x3.heap.size + 1 := by omega); have hO3 := hO3.base (B := W0.heap.size) (World.grownBy.size (u_of (u := some (G + 1)) (by repeat (first | (with_reducible exact World.grownBy.refl _ _) | (with_reducible assumption) | (with_reducible refine gr_drew ?_) | (with_reducible refine gr_alloc ?_ _))))); obtain ⟨A3, c3, rfl, _⟩ := hO3.len (u := none) lg.out (hn0 _))
        | (go_at_call 14; refine (rstep_any A1 A2 A3 n c1 c2 c3 (G + 1) ps bs gs 0 r m _ hr hr1 hm hm1 (by omega) hp hbs hgs ((hO1.low (by repeat (first | (with_reducible exact Below.refl _ _) | (with_reducible assumption) | (with_reducible refine Below.drew ?_) | (with_reducible refine Below.alloc ?_ ?_ _) | (with_reducible refine Below.setCell ?_ ?_ _) | (with_reducible refine Below.trans ?_ (Below.mono hb ?_)) | (with_reducible refine Below.trans ?_ (Below.mono hb1 ?_)) | (with_reducible refine Below.trans ?_ (Below.mono hb2 ?_)) | (with_reducible refine Below.trans ?_ (Below.mono hb3 ?_)) | (with_reducible refine Below.trans ?_ (Below.mono hb4 ?_)) | (with_reducible refine Below.trans ?_ (Below.mono hb5 ?_)) | (with_reducible refine Below.trans ?_ (Below.mono hb6 ?_)) | (with_reducible refine Below.trans ?_ (Below.mono hb7 ?_)) | (with_reducible refine Below.trans ?_ (Below.mono hb8 ?_)) | (with_reducible refine Below.trans ?_ (Below.mono hb9 ?_)) | (focus (first | omega | (simp; done) | (simp; omega))) | exact hB))).lenAt lp.out (by rintro _ ⟨⟩; omega)) ((hO2.low (by repeat (first | (with_reducible exact Below.refl _ _) | (with_reducible assumption) | (with_reducible refine Below.drew ?_) | (with_reducible refine Below.alloc ?_ ?_ _) | (with_reducible refine Below.setCell ?_ ?_ _) | (with_reducible refine Below.trans ?_ (Below.mono hb ?_)) | (with_reducible refine Below.trans ?_ (Below.mono hb1 ?_)) | (with_reducible refine Below.trans ?_ (Below.mono hb2 ?_)) | (with_reducible refine Below.trans ?_ (Below.mono hb3 ?_)) | (with_reducible refine Below.trans ?_ (Below.mono hb4 ?_)) | (with_reducible refine Below.trans ?_ (Below.mono hb5 ?_)) | (with_reducible refine Below.trans ?_ (Below.mono hb6 ?_)) | (with_reducible refine Below.trans ?_ (Below.mono hb7 ?_)) | (with_reducible refine Below.trans ?_ (Below.mono hb8 ?_)) | (with_reducible refine Below.trans ?_ (Below.mono hb9 ?_)) | (focus (first | omega | (simp; done) | (simp; omega))) | exact hB))).lenAt lb.out (by rintro _ ⟨⟩; omega)) ((hO3.low (by repeat (first | (with_reducible exact Below.refl _ _) | (with_reducible assumption) | (with_reducible refine Below.drew ?_) | (with_reducible refine Below.alloc ?_ ?_ _) | (with_reducible refine Below.setCell ?_ ?_ _) | (with_reducible refine Below.trans ?_ (Below.mono hb ?_)) | (with_reducible refine Below.trans ?_ (Below.mono hb1 ?_)) | (with_reducible refine Below.trans ?_ (Below.mono hb2 ?_)) | (with_reducible refine Below.trans ?_ (Below.mono hb3 ?_)) | (with_reducible refine Below.trans ?_ (Below.mono hb4 ?_)) | (with_reducible refine Below.trans ?_ (Below.mono hb5 ?_)) | (with_reducible refine Below.trans ?_ (Below.mono hb6 ?_)) | (with_reducible refine Below.trans ?_ (Below.mono hb7 ?_)) | (with_reducible refine Below.trans ?_ (Below.mono hb8 ?_)) | (with_reducible refine Below.trans ?_ (Below.mono hb9 ?_)) | (focus (first | omega | (simp; done) | (simp; omega))) | exact hB))).lenAt lg.out (by rintro _ ⟨⟩; omega)) (vn4.call (by repeat (first | (with_reducible exact Below.refl _ _) | (with_reducible assumption) | (with_reducible refine Below.drew ?_) | (with_reducible refine Below.alloc ?_ ?_ _) | (with_reducible refine Below.setCell ?_ ?_ _) | (with_reducible refine Below.trans ?_ (Below.mono hb ?_)) | (with_reducible refine Below.trans ?_ (Below.mono hb1 ?_)) | (with_reducible refine Below.trans ?_ (Below.mono hb2 ?_)) | (with_reducible refine Below.trans ?_ (Below.mono hb3 ?_)) | (with_reducible refine Below.trans ?_ (Below.mono hb4 ?_)) | (with_reducible refine Below.trans ?_ (Below.mono hb5 ?_)) | (with_reducible refine Below.trans ?_ (Below.mono hb6 ?_)) | (with_reducible refine Below.trans ?_ (Below.mono hb7 ?_)) | (with_reducible refine Below.trans ?_ (Below.mono hb8 ?_)) | (with_reducible refine Below.trans ?_ (Below.mono hb9 ?_)) | (focus (first | omega | (simp; done) | (simp; omega))) | exact hB))) (by omega) (by omega)).mono ?_; rintro e x4 ⟨VP, VB, rfl, hP4, hB4, hg4, hU4⟩; obtain ⟨D1, e1, rfl, rP5⟩ := hP4.len (u := none) lq.out (hn0 _); obtain ⟨D2, e2, rfl, rB5⟩ := hB4.len (u := none) lo.out (hn0 _); have hs : W0.grownBy x4 (some (G + 1)) := gr_trans (by repeat (first | (with_reducible exact World.grownBy.refl _ _) | (with_reducible assumption) | (with_reducible refine gr_drew ?_) | (with_reducible refine gr_alloc ?_ _))) hg4; obtain ⟨hc4, hf4, hy4⟩ := gcell hg4; (try simp at hy4); have d0 : ¬ W0.heap.size = G + 1 := (by omega); have d1 : ¬ x1.heap.size = G + 1 := (by omega); have d2 : ¬ x2.heap.size = G + 1 := (by omega); have d3 : ¬ x3.heap.size = G + 1 := (by omega); (try have : W0.heap.size < x3.heap.size + 1 := by omega); (try have : x1.heap.size < x3.heap.size + 1 := by omega); (try have : x2.heap.size < x3.heap.size + 1 := by omega); rw [Int.zero_add] at hU4)
        | fail)
    all_goals
      go_wp2_with fail
      go_meet
      case rel =>
        first
          | exact ⟨x4.heap.size, D1, D2, e1, e2, rfl, by simp, by simp, by simp, by omega, (hP4.low ((Below.refl _ _).alloc (Nat.le_refl _) _)).lenAt lq.out (hn0 _), (hB4.low ((Below.refl _ _).alloc (Nat.le_refl _) _)).lenAt lo.out (hn0 _), gr_alloc hs _, hU4.call ((Below.refl _ _).alloc (Nat.le_refl _) _)⟩
          | (refine ⟨x3.heap.size, D1, D2, e1, e2, rfl, by simp [*, go_sem], by simp [*, go_sem], by simp; omega, by assumption, (OwnI.setBelow (OwnI.setBelow hP4 (by first | omega | (simp; done) | (simp; omega)) _) (by first | omega | (simp; done) | (simp; omega)) _).lenAt lq.out (hn0 _), (OwnI.setBelow (OwnI.setBelow hB4 (by first | omega | (simp; done) | (simp; omega)) _) (by first | omega | (simp; done) | (simp; omega)) _).lenAt lo.out (hn0 _), gr_set (gr_set hs (by first | omega | (simp; done) | (simp; omega)) _) (by first | omega | (simp; done) | (simp; omega)) _, (hU4.set (by simp; omega) _).set (by simp; omega) _⟩)
          | (refine ⟨x2.heap.size, D1, D2, e1, e2, rfl, by simp [*, go_sem], by simp [*, go_sem], by simp; omega, by assumption, (OwnI.setBelow (OwnI.setBelow hP4 (by first | omega | (simp; done) | (simp; omega)) _) (by first | omega | (simp; done) | (simp; omega)) _).lenAt lq.out (hn0 _), (OwnI.setBelow (OwnI.setBelow hB4 (by first | omega | (simp; done) | (simp; omega)) _) (by first | omega | (simp; done) | (simp; omega)) _).lenAt lo.out (hn0 _), gr_set (gr_set hs (by first | omega | (simp; done) | (simp; omega)) _) (by first | omega | (simp; done) | (simp; omega)) _, (hU4.set (by simp; omega) _).set (by simp; omega) _⟩)
          | (refine ⟨x1.heap.size, D1, D2, e1, e2, rfl, by simp [*, go_sem], by simp [*, go_sem], by simp; omega, by assumption, (OwnI.setBelow (OwnI.setBelow hP4 (by first | omega | (simp; done) | (simp; omega)) _) (by first | omega | (simp; done) | (simp; omega)) _).lenAt lq.out (hn0 _), (OwnI.setBelow (OwnI.setBelow hB4 (by first | omega | (simp; done) | (simp; omega)) _) (by first | omega | (simp; done) | (simp; omega)) _).lenAt lo.out (hn0 _), gr_set (gr_set hs (by first | omega | (simp; done) | (simp; omega)) _) (by first | omega | (simp; done) | (simp; omega)) _, (hU4.set (by simp; omega) _).set (by simp; omega) _⟩)
          | (refine ⟨W0.heap.size, D1, D2, e1, e2, rfl, by simp [*, go_sem], by simp [*, go_sem], by simp; omega, by assumption, (OwnI.setBelow (OwnI.setBelow hP4 (by first | omega | (simp; done) | (simp; omega)) _) (by first | omega | (simp; done) | (simp; omega)) _).lenAt lq.out (hn0 _), (OwnI.setBelow (OwnI.setBelow hB4 (by first | omega | (simp; done) | (simp; omega)) _) (by first | omega | (simp; done) | (simp; omega)) _).lenAt lo.out (hn0 _), gr_set (gr_set hs (by first | omega | (simp; done) | (simp; omega)) _) (by first | omega | (simp; done) | (simp; omega)) _, (hU4.set (by simp; omega) _).set (by simp; omega) _⟩)
  case rest =>
  obtain ⟨T, D1, D2, e1, e2, rfl, t0, t1, lT, nT, rD1, rD2, hg5, hU5⟩ := hcut
  have z5 := hg5.size
  have s0 := (gr_cell hg5 (x := N9) (o := 0) lN (by simp; omega)).trans n40
  have s1 := (gr_cell hg5 (x := N9) (o := 1) lN (by simp; omega)).trans n41
  have rP6 : Rd wc none AP n (opV r m ps bs gs n) := (rP4.grown hg5).noone2
  have rB6 : Rd wc none AB n (obV m bs gs n) := (rB4.grown hg5).noone2
  have un6 := un4.grown hg5 (by rintro g ⟨⟩; simp)
  have BW5 : Below w.heap.size w wc := BW4.trans (gr_new hg5 (B := w.heap.size) BW4.size (by omega))
  have hm5 := cell_of_one hU5
  clear hg5 aN4 bN4 cN4 rP4 rB4 un4 vn4 r40 r41 o40 o41 n40 n41 BW4 m1 m2 m3 m4 hs
  go_wp2_with fail
  go_region_with (first
    | (go_at_call 16; refine (like10_any AP AB D1 D2 n cP cB e1 e2 _ _ _ (by omega) (rP6.call (by repeat (first | (with_reducible exact Below.refl _ _) | (with_reducible assumption) | (with_reducible refine Below.drew ?_) | (with_reducible refine Below.alloc ?_ ?_ _) | (with_reducible refine Below.setCell ?_ ?_ _) | (with_reducible refine Below.trans ?_ (Below.mono hb ?_)) | (with_reducible refine Below.trans ?_ (Below.mono hb1 ?_)) | (with_reducible refine Below.trans ?_ (Below.mono hb2 ?_)) | (with_reducible refine Below.trans ?_ (Below.mono hb3 ?_)) | (with_reducible refine Below.trans ?_ (Below.mono hb4 ?_)) | (with_reducible refine Below.trans ?_ (Below.mono hb5 ?_)) | (with_reducible refine Below.trans ?_ (Below.mono hb6 ?_)) | (with_reducible refine Below.trans ?_ (Below.mono hb7 ?_)) | (with_reducible refine Below.trans ?_ (Below.mono hb8 ?_)) | (with_reducible refine Below.trans ?_ (Below.mono hb9 ?_)) | (focus (first | omega | (simp; done) | (simp; omega))) | exact hB))) (rB6.call (by repeat (first | (with_reducible exact Below.refl _ _) | (with_reducible assumption) | (with_reducible refine Below.drew ?_) | (with_reducible refine Below.alloc ?_ ?_ _) | (with_reducible refine Below.setCell ?_ ?_ _) | (with_reducible refine Below.trans ?_ (Below.mono hb ?_)) | (with_reducible refine Below.trans ?_ (Below.mono hb1 ?_)) | (with_reducible refine Below.trans ?_ (Below.mono hb2 ?_)) | (with_reducible refine Below.trans ?_ (Below.mono hb3 ?_)) | (with_reducible refine Below.trans ?_ (Below.mono hb4 ?_)) | (with_reducible refine Below.trans ?_ (Below.mono hb5 ?_)) | (with_reducible refine Below.trans ?_ (Below.mono hb6 ?_)) | (with_reducible refine Below.trans ?_ (Below.mono hb7 ?_)) | (with_reducible refine Below.trans ?_ (Below.mono hb8 ?_)) | (with_reducible refine Below.trans ?_ (Below.mono hb9 ?_)) | (focus (first | omega | (simp; done) | (simp; omega))) | exact hB))) (rD1.call (by repeat (first | (with_reducible exact Below.refl _ _) | (with_reducible assumption) | (with_reducible refine Below.drew ?_) | (with_reducible refine Below.alloc ?_ ?_ _) | (with_reducible refine Below.setCell ?_ ?_ _) | (with_reducible refine Below.trans ?_ (Below.mono hb ?_)) | (with_reducible refine Below.trans ?_ (Below.mono hb1 ?_)) | (with_reducible refine Below.trans ?_ (Below.mono hb2 ?_)) | (with_reducible refine Below.trans ?_ (Below.mono hb3 ?_)) | (with_reducible refine Below.trans ?_ (Below.mono hb4 ?_)) | (with_reducible refine Below.trans ?_ (Below.mono hb5 ?_)) | (with_reducible refine Below.trans ?_ (Below.mono hb6 ?_)) | (with_reducible refine Below.trans ?_ (Below.mono hb7 ?_)) | (with_reducible refine Below.trans ?_ (Below.mono hb8 ?_)) | (with_reducible refine Below.trans ?_ (Below.mono hb9 ?_)) | (focus (first | omega | (simp; done) | (simp; omega))) | exact hB))) (rD2.call (by repeat (first | (with_reducible exact Below.refl _ _) | (with_reducible assumption) | (with_reducible refine Below.drew ?_) | (with_reducible refine Below.alloc ?_ ?_ _) | (with_reducible refine Below.setCell ?_ ?_ _) | (with_reducible refine Below.trans ?_ (Below.mono hb ?_)) | (with_reducible refine Below.trans ?_ (Below.mono hb1 ?_)) | (with_reducible refine Below.trans ?_ (Below.mono hb2 ?_)) | (with_reducible refine Below.trans ?_ (Below.mono hb3 ?_)) | (with_reducible refine Below.trans ?_ (Below.mono hb4 ?_)) | (with_reducible refine Below.trans ?_ (Below.mono hb5 ?_)) | (with_reducible refine Below.trans ?_ (Below.mono hb6 ?_)) | (with_reducible refine Below.trans ?_ (Below.mono hb7 ?_)) | (with_reducible refine Below.trans ?_ (Below.mono hb8 ?_)) | (with_reducible refine Below.trans ?_ (Below.mono hb9 ?_)) | (focus (first | omega | (simp; done) | (simp; omega))) | exact hB)))).mono ?_; rintro e y1 ⟨rfl, hb1⟩; replace hb1 := undrew hb1; have hm6 := (hb1.cell (p := ⟨G + 1, 0, none⟩) hU5.lt).trans hm5)
    | (go_at_call 13; refine (ucount_any _ (some G) (ocN r m ps bs gs n) _ (un6.call hb1)).mono ?_; rintro e y2 ⟨rfl, rfl⟩))
  all_goals
    have BE : Below w.heap.size w y1 := BW5.trans (hb1.mono (by have := BW5.size; omega))
    clear hb1 rP6 rB6 rD1 rD2 un6 BW5 hU5
    go_wp2
    go_ret
    exact ⟨rfl, BE⟩
end Go.Proofs.Ytcdnkecgnfdfnaa
