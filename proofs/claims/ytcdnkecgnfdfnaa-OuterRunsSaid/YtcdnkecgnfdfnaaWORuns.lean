import Derived.Test.YtcdnkecgnfdfnaaWOSteps2
import Derived.Test.YtcdnkecgnfdfnaaRowL
/- The law OuterRuns, walked. -/
namespace Go.Proofs.Ytcdnkecgnfdfnaa
open Go.RowKit
attribute [local go_sem ↓] Go.wp_at_zero Go.wp_at_succ

theorem ucount_some (g : Nat) (c : Int) (w : World) (hU : Unt w (.pointer (some ⟨g, 0, none⟩)) (some g) c) :
    Calls Try.prog 13 #[.pointer (some ⟨g, 0, none⟩)] w fun e w' => e = .returned (.int .i64 c) ∧ Below w.heap.size w w' :=
  (ucount_any _ (some g) c w hU).mono fun e w' ⟨he, hw⟩ => ⟨by simpa using he, hw ▸ Below.refl _ _⟩
/-- The blocks that the rounds write to. -/
def four (a b c d : Nat) (x : Nat) : Prop := x = a ∨ x = b ∨ x = c ∨ x = d
/-- What stands behind some rounds. -/
def ORun (w wr : World) (r m : Int) (X Y G n k : Nat) : Prop :=
  ∃ (AP AB C D : Option Addr) (cP cB cr cs : Nat) (ps bs : List Int) (c : Int), wr.heap[X]? = some (.cells #[.slice AP n cP, .slice AB n cB] 28 (0, 0)) ∧
    wr.heap[Y]? = some (.cells #[.slice C n cr, .slice D n cs] 47 (0, 0)) ∧ RdS wr (four X Y G (G + 1)) AP n ps ∧ RdS wr (four X Y G (G + 1)) AB n bs ∧ RdS wr (four X Y G (G + 1)) C n ps ∧ RdS wr (four X Y G (G + 1)) D n bs ∧
    All64 ps ∧ All64 bs ∧ Unt wr (.pointer (some ⟨G, 0, none⟩)) (some G) c ∧ Unr wr (G + 1) c ∧ 0 ≤ c ∧ c ≤ 60 * k ∧ Below w.heap.size w wr ∧ wr.heap[w.heap.size]? = some (.cells #[.int .i64 r, .int .i64 m] 24 (0, 0))
def RunCut (W0 : World) (n : Nat) (ps : List Int) (v : Value) (w' : World) : Prop :=
  ∃ (Y : Nat) (C D : Option Addr) (cr cs : Nat), v = .pointer (some ⟨Y, 0, none⟩) ∧ W0.heap.size ≤ Y ∧ Below W0.heap.size W0 w' ∧ w'.heap[Y]? = some (.cells #[.slice C n cr, .slice D n cs] 47 (0, 0)) ∧ RdS w' (fun b => b = Y ∨ b < W0.heap.size) C n ps ∧ RdS w' (fun b => b = Y ∨ b < W0.heap.size) D n (List.replicate n 0)
theorem runCut {W0 w' : World} {n : Nat} {ps : List Int} {Y : Nat} {C D : Option Addr} {cr cs : Nat} (h1 : w'.heap[Y]? = some (.cells #[.slice C n cr, .slice D n cs] 47 (0, 0))) (h2 : W0.heap.size ≤ Y) (h3 : Below W0.heap.size W0 w')
    (h4 : RdS w' (fun b => b = Y ∨ b < W0.heap.size) C n ps) (h5 : RdS w' (fun b => b = Y ∨ b < W0.heap.size) D n (List.replicate n 0)) : RunCut W0 n ps (.pointer (some ⟨Y, 0, none⟩)) w' := ⟨Y, C, D, cr, cs, rfl, h2, h3, h1, h4, h5⟩
theorem ORun.call {w wr w' : World} {r m : Int} {X Y G n k : Nat} (h : ORun w wr r m X Y G n k) (hb : Below wr.heap.size wr w') : ORun w w' r m X Y G n k := by
  obtain ⟨AP, AB, C, D, cP, cB, cr, cs, ps, bs, c, bX, bY, s1, s2, s3, s4, hq, hbs, un, vn, hc0, hc, BWr, bR⟩ := h
  exact ⟨AP, AB, C, D, cP, cB, cr, cs, ps, bs, c, hp_call bX hb, hp_call bY hb, s1.call hb, s2.call hb, s3.call hb, s4.call hb, hq, hbs, un.call hb, vn.call hb, hc0, hc, BWr.trans (hb.mono BWr.size), hp_call bR hb⟩
theorem ORun.below {w wr : World} {r m : Int} {X Y G n k : Nat} (h : ORun w wr r m X Y G n k) : Below w.heap.size w wr := by
  obtain ⟨AP, AB, C, D, cP, cB, cr, cs, ps, bs, c, bX, bY, s1, s2, s3, s4, hq, hbs, un, vn, hc0, hc, BWr, bR⟩ := h
  exact BWr
/-- What stands behind both steps of a round. -/
def RunCut2 (w w' : World) (r m : Int) (X Y G n : Nat) (ps bs : List Int) (c : Int) (v : Value) : Prop :=
  ∃ (AP AB C D : Option Addr) (cP cB cr cs : Nat), v = .pointer (some ⟨Y, 0, none⟩) ∧ w'.heap[X]? = some (.cells #[.slice AP n cP, .slice AB n cB] 28 (0, 0)) ∧
    w'.heap[Y]? = some (.cells #[.slice C n cr, .slice D n cs] 47 (0, 0)) ∧ RdS w' (four X Y G (G + 1)) AP n ps ∧ RdS w' (four X Y G (G + 1)) AB n bs ∧ RdS w' (four X Y G (G + 1)) C n ps ∧ RdS w' (four X Y G (G + 1)) D n bs ∧
    Unt w' (.pointer (some ⟨G, 0, none⟩)) (some G) c ∧ Unr w' (G + 1) c ∧ Below w.heap.size w w' ∧ w'.heap[w.heap.size]? = some (.cells #[.int .i64 r, .int .i64 m] 24 (0, 0))
theorem runCut2 {w W0 x6 : World} {r m c c' : Int} {X Y G n : Nat} {ps bs : List Int} {AP AB C D : Option Addr} {cP cB cr cs : Nat} {v0 v1 : Value} (hs : W0.grownBy x6 (some (G + 1))) (hX : W0.heap[X]? = some (.cells #[.slice AP n cP, .slice AB n cB] 28 (0, 0)))
    (hY : x6.heap[Y]? = some (.cells #[v0, v1] 47 (0, 0))) (hR : W0.heap[w.heap.size]? = some (.cells #[.int .i64 r, .int .i64 m] 24 (0, 0)))
    (t1 : RdS W0 (four X Y G (G + 1)) AP n ps) (t2 : RdS W0 (four X Y G (G + 1)) AB n bs) (p3 : RdS x6 (four X Y G (G + 1)) C n ps) (p4 : RdS x6 (four X Y G (G + 1)) D n bs)
    (un : Unt W0 (.pointer (some ⟨G, 0, none⟩)) (some G) c) (vn : Unr x6 (G + 1) c') (hc : c' = c) (BW : Below w.heap.size w W0) (h1 : w.heap.size < X) (h2 : X < Y) (h3 : Y < G) :
    RunCut2 w ((x6.setCell ⟨Y, 0, none⟩ (.slice C n cr)).setCell ⟨Y, 1, none⟩ (.slice D n cs)) r m X Y G n ps bs c (.pointer (some ⟨Y, 0, none⟩)) := by
  subst hc
  refine ⟨AP, AB, C, D, cP, cB, cr, cs, rfl, ?_, hp2_1 _ (hp2_0 _ hY), ?_, ?_, ?_, ?_, ?_, ?_, ?_, ?_⟩
  · exact hp_set (hp_set (hp_grown hX hs (by simp; omega)) (by simp; omega) _) (by simp; omega) _
  · exact ((t1.grow hs (.inr (.inr (.inr rfl)))).set (.inr (.inl rfl)) _).set (.inr (.inl rfl)) _
  · exact ((t2.grow hs (.inr (.inr (.inr rfl)))).set (.inr (.inl rfl)) _).set (.inr (.inl rfl)) _
  · exact (p3.set (.inr (.inl rfl)) _).set (.inr (.inl rfl)) _
  · exact (p4.set (.inr (.inl rfl)) _).set (.inr (.inl rfl)) _
  · exact ((un.grown hs (by rintro _ ⟨⟩; simp)).setc (by rintro _ ⟨⟩; simp; omega) _).setc (by rintro _ ⟨⟩; simp; omega) _
  · exact (vn.setc (by simp; omega) _).setc (by simp; omega) _
  · exact ((BW.trans (gr_new hs (B := w.heap.size) BW.size (by omega))).setCell (by show w.heap.size ≤ Y; omega) _).setCell (by show w.heap.size ≤ Y; omega) _
  · exact hp_set (hp_set (hp_grown hR hs (by simp; omega)) (by simp; omega) _) (by simp; omega) _
set_option maxHeartbeats 4000000 in
set_option maxRecDepth 100000 in
theorem oruns_main (A Q : Option Addr) (n cp L cq : Nat) (r m : Int) (ps : List Int) (Ar : Nat → Option Addr) (Lr Cr : Nat → Nat) (Zr : Nat → List Int) (w : World) (hn : n ≤ 20) (hL : L ≤ 30) (hr : 0 ≤ r) (hr1 : r < 9223372036854775808) (hm : 0 ≤ m) (hm1 : m < 4294967296)
    (hA : Rd w none A n ps) (hp : All64 ps) (hQ : RdL w Q L Ar Lr Cr Zr) :
    Calls Try.prog 5 #[.agg #[.int .i64 r, .int .i64 m], .slice A n cp, .slice Q L cq] w fun e w' => e = .returned (.bool true) ∧ Below w.heap.size w w' := by
  have hn0 : ∀ (B g : Nat), none = some g → g < B := by intro B g e; cases e
  have AW := Lib.hid (fun W => awake10_any W)
  have RG := Lib.hid (fun W => right10_any r m W)
  have e0 : (decide (0 ≤ r) && (decide (0 ≤ m) && decide (m < 4294967296))) = true := by simp; omega
  rw [e0] at RG
  have lp := Lib.hid hA.1
  have HQ := Lib.hid hQ
  clear e0
  go_enter Try.func5, Try.ntmps5
  go_wp2_with (first
    | (go_at_call 8; refine (AW.out _).mono ?_; rintro e w1 ⟨rfl, hb1⟩; obtain ⟨hc1, hf1, hz1⟩ := bcell hb1; (try simp at hz1); (try have : w.heap.size < w1.heap.size := by omega); (try have : w.heap.size + 1 < w1.heap.size := by omega); (try have : w.heap.size + 1 + 1 < w1.heap.size := by omega); (try have : w.heap.size + 1 + 1 + 1 < w1.heap.size := by omega); (try have : g < w1.heap.size := by omega); (try have : ga < w1.heap.size := by omega); (try have : gb < w1.heap.size := by omega); (try have : gc < w1.heap.size := by omega); have hB : Below w.heap.size w w1 := (by repeat (first | (with_reducible exact Below.refl _ _) | (with_reducible assumption) | (with_reducible refine Below.drew ?_) | (with_reducible refine Below.alloc ?_ ?_ _) | (with_reducible refine Below.setCell ?_ ?_ _) | (with_reducible refine Below.trans ?_ (Below.mono hb ?_)) | (with_reducible refine Below.trans ?_ (Below.mono hb1 ?_)) | (with_reducible refine Below.trans ?_ (Below.mono hb2 ?_)) | (with_reducible refine Below.trans ?_ (Below.mono hb3 ?_)) | (with_reducible refine Below.trans ?_ (Below.mono hb4 ?_)) | (with_reducible refine Below.trans ?_ (Below.mono hb5 ?_)) | (with_reducible refine Below.trans ?_ (Below.mono hb6 ?_)) | (with_reducible refine Below.trans ?_ (Below.mono hb7 ?_)) | (with_reducible refine Below.trans ?_ (Below.mono hb8 ?_)) | (with_reducible refine Below.trans ?_ (Below.mono hb9 ?_)) | (focus (first | omega | (simp; done) | (simp; omega))) | exact hB)))
    | (go_at_call 12; refine (RG.out _).mono ?_; rintro e w2 ⟨rfl, hb2⟩; obtain ⟨hc2, hf2, hz2⟩ := bcell hb2; (try simp at hz2); (try have : w.heap.size < w2.heap.size := by omega); (try have : w.heap.size + 1 < w2.heap.size := by omega); (try have : w.heap.size + 1 + 1 < w2.heap.size := by omega); (try have : w.heap.size + 1 + 1 + 1 < w2.heap.size := by omega); (try have : w1.heap.size < w2.heap.size := by omega); (try have : w1.heap.size + 1 < w2.heap.size := by omega); (try have : w1.heap.size + 1 + 1 < w2.heap.size := by omega); (try have : w1.heap.size + 1 + 1 + 1 < w2.heap.size := by omega); (try have : g < w2.heap.size := by omega); (try have : ga < w2.heap.size := by omega); (try have : gb < w2.heap.size := by omega); (try have : gc < w2.heap.size := by omega); have hB : Below w.heap.size w w2 := (by repeat (first | (with_reducible exact Below.refl _ _) | (with_reducible assumption) | (with_reducible refine Below.drew ?_) | (with_reducible refine Below.alloc ?_ ?_ _) | (with_reducible refine Below.setCell ?_ ?_ _) | (with_reducible refine Below.trans ?_ (Below.mono hb ?_)) | (with_reducible refine Below.trans ?_ (Below.mono hb1 ?_)) | (with_reducible refine Below.trans ?_ (Below.mono hb2 ?_)) | (with_reducible refine Below.trans ?_ (Below.mono hb3 ?_)) | (with_reducible refine Below.trans ?_ (Below.mono hb4 ?_)) | (with_reducible refine Below.trans ?_ (Below.mono hb5 ?_)) | (with_reducible refine Below.trans ?_ (Below.mono hb6 ?_)) | (with_reducible refine Below.trans ?_ (Below.mono hb7 ?_)) | (with_reducible refine Below.trans ?_ (Below.mono hb8 ?_)) | (with_reducible refine Below.trans ?_ (Below.mono hb9 ?_)) | (focus (first | omega | (simp; done) | (simp; omega))) | exact hB))))
  have bR2 : w2.heap[w.heap.size]? = some (.cells #[.int .i64 r, .int .i64 m] 24 (0, 0)) :=
    (hb2.block _ (by omega)).trans ((hb1.block _ (by simp)).trans (heap_alloc_new w _))
  clear hc1 hf1 hc2 hf2 AW RG
  refine (obegin_any A n cp ps _ (by omega) (hA.call (by repeat (first | (with_reducible exact Below.refl _ _) | (with_reducible assumption) | (with_reducible refine Below.drew ?_) | (with_reducible refine Below.alloc ?_ ?_ _) | (with_reducible refine Below.setCell ?_ ?_ _) | (with_reducible refine Below.trans ?_ (Below.mono hb ?_)) | (with_reducible refine Below.trans ?_ (Below.mono hb1 ?_)) | (with_reducible refine Below.trans ?_ (Below.mono hb2 ?_)) | (with_reducible refine Below.trans ?_ (Below.mono hb3 ?_)) | (with_reducible refine Below.trans ?_ (Below.mono hb4 ?_)) | (with_reducible refine Below.trans ?_ (Below.mono hb5 ?_)) | (with_reducible refine Below.trans ?_ (Below.mono hb6 ?_)) | (with_reducible refine Below.trans ?_ (Below.mono hb7 ?_)) | (with_reducible refine Below.trans ?_ (Below.mono hb8 ?_)) | (with_reducible refine Below.trans ?_ (Below.mono hb9 ?_)) | (focus (first | omega | (simp; done) | (simp; omega))) | exact hB)))).mono ?_
  rintro e w3 ⟨V, V', rfl, hP, hZ, hG, hUU⟩
  clear hUU
  have hb3 := gr_none hG
  have BW3 : Below w.heap.size w w3 := (by repeat (first | (with_reducible exact Below.refl _ _) | (with_reducible assumption) | (with_reducible refine Below.drew ?_) | (with_reducible refine Below.alloc ?_ ?_ _) | (with_reducible refine Below.setCell ?_ ?_ _) | (with_reducible refine Below.trans ?_ (Below.mono hb ?_)) | (with_reducible refine Below.trans ?_ (Below.mono hb1 ?_)) | (with_reducible refine Below.trans ?_ (Below.mono hb2 ?_)) | (with_reducible refine Below.trans ?_ (Below.mono hb3 ?_)) | (with_reducible refine Below.trans ?_ (Below.mono hb4 ?_)) | (with_reducible refine Below.trans ?_ (Below.mono hb5 ?_)) | (with_reducible refine Below.trans ?_ (Below.mono hb6 ?_)) | (with_reducible refine Below.trans ?_ (Below.mono hb7 ?_)) | (with_reducible refine Below.trans ?_ (Below.mono hb8 ?_)) | (with_reducible refine Below.trans ?_ (Below.mono hb9 ?_)) | (focus (first | omega | (simp; done) | (simp; omega))) | exact hB))
  have bR3 := (hb3.block _ (lt_of_block bR2)).trans bR2
  obtain ⟨A1, c1, rfl, rA1⟩ := hP.len (u := none) lp.out (hn0 _)
  obtain ⟨A2, c2, rfl, rA2⟩ := hZ.len (u := none) (n := n) (by simp) (hn0 _)
  have z3 := hb3.size
  have rp3 := hA.call BW3
  have rQ3 := hQ.call BW3
  clear hP hZ hG hb1 hb2 bR2 hb3 hB hA hQ
  have rS1 := rA1.apart (S := fun b => w3.heap.size ≤ b) fun g hg => hg
  have rS2 := rA2.apart (S := fun b => w3.heap.size ≤ b) fun g hg => hg
  clear rA1 rA2
  go_wp2_with fail
  refine at_world fun W0 hW0 => ?_
  have bX : W0.heap[w3.heap.size]? = some (.cells #[.slice A1 n c1, .slice A2 n c2] 28 (0, 0)) := by subst hW0; exact heap_alloc_new w3 _
  have BK : Below w3.heap.size w3 W0 := by subst hW0; exact (by repeat (first | (with_reducible exact Below.refl _ _) | (with_reducible assumption) | (with_reducible refine Below.drew ?_) | (with_reducible refine Below.alloc ?_ ?_ _) | (with_reducible refine Below.setCell ?_ ?_ _) | (with_reducible refine Below.trans ?_ (Below.mono hb ?_)) | (with_reducible refine Below.trans ?_ (Below.mono hb1 ?_)) | (with_reducible refine Below.trans ?_ (Below.mono hb2 ?_)) | (with_reducible refine Below.trans ?_ (Below.mono hb3 ?_)) | (with_reducible refine Below.trans ?_ (Below.mono hb4 ?_)) | (with_reducible refine Below.trans ?_ (Below.mono hb5 ?_)) | (with_reducible refine Below.trans ?_ (Below.mono hb6 ?_)) | (with_reducible refine Below.trans ?_ (Below.mono hb7 ?_)) | (with_reducible refine Below.trans ?_ (Below.mono hb8 ?_)) | (with_reducible refine Below.trans ?_ (Below.mono hb9 ?_)) | (focus (first | omega | (simp; done) | (simp; omega))) | exact hB))
  have BW0 := BW3.trans (BK.mono BW3.size)
  have bR := (BK.block _ (lt_of_block bR3)).trans bR3
  have rp := rp3.call BK
  have rQ := rQ3.call BK
  have r1 := rS1.call BK
  have r2 := rS2.call BK
  have lX := lt_of_block bX
  have lwX : w.heap.size < w3.heap.size := by have := lt_of_block bR3; omega
  clear hW0 rp3 rQ3 rS1 rS2 bR3 BW3 BK z3
  generalize w3.heap.size = X at *
  have hmk := run_zerosI n (by omega)
  have hB := Below.refl W0.heap.size W0
  go_cut [9] (fun v w' => RunCut W0 n ps v w')
  case first =>
    go_region_held3 (fun w' => Below W0.heap.size W0 w' ∧ ∀ b o, b < W0.heap.size → w'.cell? ⟨b, o, none⟩ = W0.cell? ⟨b, o, none⟩) ((first | (refine sb_call ?_ hb; assumption) | exact sb_of hs | exact sb_of (Below.drew hs) | (refine sb_call ?_ hb1; assumption) | (refine sb_call ?_ hb2; assumption) | (refine sb_call ?_ hb3; assumption) | (refine sb_call ?_ hb4; assumption) | (refine sb_call ?_ hb5; assumption) | (refine sb_call ?_ hb6; assumption) | (refine sb_call ?_ hb7; assumption) | (refine sb_call ?_ hb8; assumption) | (refine sb_call ?_ hb9; assumption) | exact sb_of (by repeat (first | (with_reducible exact Below.refl _ _) | (with_reducible assumption) | (with_reducible refine Below.drew ?_) | (with_reducible refine Below.alloc ?_ ?_ _) | (with_reducible refine Below.setCell ?_ ?_ _) | (with_reducible refine Below.trans ?_ (Below.mono hb ?_)) | (with_reducible refine Below.trans ?_ (Below.mono hb1 ?_)) | (with_reducible refine Below.trans ?_ (Below.mono hb2 ?_)) | (with_reducible refine Below.trans ?_ (Below.mono hb3 ?_)) | (with_reducible refine Below.trans ?_ (Below.mono hb4 ?_)) | (with_reducible refine Below.trans ?_ (Below.mono hb5 ?_)) | (with_reducible refine Below.trans ?_ (Below.mono hb6 ?_)) | (with_reducible refine Below.trans ?_ (Below.mono hb7 ?_)) | (with_reducible refine Below.trans ?_ (Below.mono hb8 ?_)) | (with_reducible refine Below.trans ?_ (Below.mono hb9 ?_)) | (focus (first | omega | (simp; done) | (simp; omega))) | exact hB))))
      ((go_at_call 15; refine (plain10_any A n cp ps _ (by omega) (rp.call (by repeat (first | (with_reducible exact Below.refl _ _) | (with_reducible assumption) | (with_reducible refine Below.drew ?_) | (with_reducible refine Below.alloc ?_ ?_ _) | (with_reducible refine Below.setCell ?_ ?_ _) | (with_reducible refine Below.trans ?_ (Below.mono hb ?_)) | (with_reducible refine Below.trans ?_ (Below.mono hb1 ?_)) | (with_reducible refine Below.trans ?_ (Below.mono hb2 ?_)) | (with_reducible refine Below.trans ?_ (Below.mono hb3 ?_)) | (with_reducible refine Below.trans ?_ (Below.mono hb4 ?_)) | (with_reducible refine Below.trans ?_ (Below.mono hb5 ?_)) | (with_reducible refine Below.trans ?_ (Below.mono hb6 ?_)) | (with_reducible refine Below.trans ?_ (Below.mono hb7 ?_)) | (with_reducible refine Below.trans ?_ (Below.mono hb8 ?_)) | (with_reducible refine Below.trans ?_ (Below.mono hb9 ?_)) | (focus (first | omega | (simp; done) | (simp; omega))) | exact hB)))).mono ?_; rintro e wk ⟨V1, rfl, hO1, hb⟩; have hs : Below W0.heap.size W0 wk := (by repeat (first | (with_reducible exact Below.refl _ _) | (with_reducible assumption) | (with_reducible refine Below.drew ?_) | (with_reducible refine Below.alloc ?_ ?_ _) | (with_reducible refine Below.setCell ?_ ?_ _) | (with_reducible refine Below.trans ?_ (Below.mono hb ?_)) | (with_reducible refine Below.trans ?_ (Below.mono hb1 ?_)) | (with_reducible refine Below.trans ?_ (Below.mono hb2 ?_)) | (with_reducible refine Below.trans ?_ (Below.mono hb3 ?_)) | (with_reducible refine Below.trans ?_ (Below.mono hb4 ?_)) | (with_reducible refine Below.trans ?_ (Below.mono hb5 ?_)) | (with_reducible refine Below.trans ?_ (Below.mono hb6 ?_)) | (with_reducible refine Below.trans ?_ (Below.mono hb7 ?_)) | (with_reducible refine Below.trans ?_ (Below.mono hb8 ?_)) | (with_reducible refine Below.trans ?_ (Below.mono hb9 ?_)) | (focus (first | omega | (simp; done) | (simp; omega))) | exact hB)); have hzs := Below.size hs; obtain ⟨D1, e1, rfl, rO1⟩ := hO1.len (u := none) lp.out (hn0 _); clear rO1; have ho1 := fun S hS => hO1.offS lp.out S hS; obtain ⟨hcb, hfb, hyb⟩ := bcell hb; (try simp at hyb); (try have : W0.heap.size < wk.heap.size := by omega); (try have : W0.heap.size + 1 < wk.heap.size := by omega)))
    all_goals
      go_wp2_with fail
      go_meet
      case rel =>
        apply runCut
        · exact (by repeat (first | (with_reducible assumption) | (with_reducible exact heap_alloc_new _ _) | (exact newest_at _ _ (by first | rfl | (simp; done) | (simp; omega))) | (with_reducible refine hp_drew ?_) | (with_reducible refine hp_alloc ?_ _) | (with_reducible apply hp2_1) | (with_reducible apply hp2_0) | (with_reducible apply hp1_0) | (with_reducible apply hp3_2) | (with_reducible apply hp3_1) | (with_reducible apply hp3_0) | (refine hp_set ?_ (by first | omega | (simp; done) | (simp; omega)) _) | (refine hp_call ?_ hb) | (refine hp_call ?_ hb1) | (refine hp_call ?_ hb2) | (refine hp_call ?_ hb3) | (refine hp_call ?_ hb4) | (refine hp_call ?_ hb5) | (refine hp_call ?_ hb6) | (refine hp_call ?_ hb7) | (refine hp_call ?_ hb8) | (refine hp_call ?_ hb9)))
        · exact (by first | omega | (simp; done) | (simp; omega))
        · exact (by repeat (first | (with_reducible exact Below.refl _ _) | (with_reducible assumption) | (with_reducible refine Below.drew ?_) | (with_reducible refine Below.alloc ?_ ?_ _) | (with_reducible refine Below.setCell ?_ ?_ _) | (with_reducible refine Below.trans ?_ (Below.mono hb ?_)) | (with_reducible refine Below.trans ?_ (Below.mono hb1 ?_)) | (with_reducible refine Below.trans ?_ (Below.mono hb2 ?_)) | (with_reducible refine Below.trans ?_ (Below.mono hb3 ?_)) | (with_reducible refine Below.trans ?_ (Below.mono hb4 ?_)) | (with_reducible refine Below.trans ?_ (Below.mono hb5 ?_)) | (with_reducible refine Below.trans ?_ (Below.mono hb6 ?_)) | (with_reducible refine Below.trans ?_ (Below.mono hb7 ?_)) | (with_reducible refine Below.trans ?_ (Below.mono hb8 ?_)) | (with_reducible refine Below.trans ?_ (Below.mono hb9 ?_)) | (focus (first | omega | (simp; done) | (simp; omega))) | exact hB))
        · repeat (first | exact ho1 _ (by rintro g (rfl | hg) <;> first | omega | (simp; done) | (simp; omega)) | (with_reducible refine RdS.alloc ?_ _) | (with_reducible refine RdS.drew ?_) | (refine RdS.set ?_ (.inl rfl) _))
        · repeat (first | exact rdzI_S _ _ _ (by omega) (by first | rfl | (simp; done)) (by rintro (h | h) <;> first | omega | (simp at h; done) | (simp at h; omega)) | (with_reducible refine RdS.alloc ?_ _) | (with_reducible refine RdS.drew ?_) | (refine RdS.set ?_ (.inl rfl) _) | refine RdS.call ?_ hb)
  case rest =>
  obtain ⟨Y, C, D, cr, cs, rfl, lY, BK, bY, rC, rD⟩ := hcut
  have BWc := BW0.trans (BK.mono BW0.size)
  have bXc := hp_call bX BK
  have bRc := hp_call bR BK
  have rpc := rp.call BK
  have rQc := rQ.call BK
  have r1c := r1.call BK
  have r2c := r2.call BK
  have lYc := lt_of_block bY
  have lXY : X < Y := by omega
  have k0 := cell_of_row wc X 0 _ _ _ bXc
  have k1 := cell_of_row wc X 1 _ _ _ bXc
  have k2 := cell_of_row wc Y 0 _ _ _ bY
  have k3 := cell_of_row wc Y 1 _ _ _ bY
  simp only [List.getElem?_toArray, List.getElem?_cons_zero, List.getElem?_cons_succ] at k0 k1 k2 k3
  have zc := BK.size
  clear bX bR rp rQ r1 r2 BK hmk hB BW0
  go_wp2_with ((go_at_call 16; refine (like10_any A1 A2 C D n c1 c2 cr cs ps (List.replicate n 0) _ (by omega) (r1c.none_.call (by repeat (first | (with_reducible exact Below.refl _ _) | (with_reducible assumption) | (with_reducible refine Below.drew ?_) | (with_reducible refine Below.alloc ?_ ?_ _) | (with_reducible refine Below.setCell ?_ ?_ _) | (with_reducible refine Below.trans ?_ (Below.mono hb ?_)) | (with_reducible refine Below.trans ?_ (Below.mono hb1 ?_)) | (with_reducible refine Below.trans ?_ (Below.mono hb2 ?_)) | (with_reducible refine Below.trans ?_ (Below.mono hb3 ?_)) | (with_reducible refine Below.trans ?_ (Below.mono hb4 ?_)) | (with_reducible refine Below.trans ?_ (Below.mono hb5 ?_)) | (with_reducible refine Below.trans ?_ (Below.mono hb6 ?_)) | (with_reducible refine Below.trans ?_ (Below.mono hb7 ?_)) | (with_reducible refine Below.trans ?_ (Below.mono hb8 ?_)) | (with_reducible refine Below.trans ?_ (Below.mono hb9 ?_)) | (focus (first | omega | (simp; done) | (simp; omega))) | exact hB))) (r2c.none_.call (by repeat (first | (with_reducible exact Below.refl _ _) | (with_reducible assumption) | (with_reducible refine Below.drew ?_) | (with_reducible refine Below.alloc ?_ ?_ _) | (with_reducible refine Below.setCell ?_ ?_ _) | (with_reducible refine Below.trans ?_ (Below.mono hb ?_)) | (with_reducible refine Below.trans ?_ (Below.mono hb1 ?_)) | (with_reducible refine Below.trans ?_ (Below.mono hb2 ?_)) | (with_reducible refine Below.trans ?_ (Below.mono hb3 ?_)) | (with_reducible refine Below.trans ?_ (Below.mono hb4 ?_)) | (with_reducible refine Below.trans ?_ (Below.mono hb5 ?_)) | (with_reducible refine Below.trans ?_ (Below.mono hb6 ?_)) | (with_reducible refine Below.trans ?_ (Below.mono hb7 ?_)) | (with_reducible refine Below.trans ?_ (Below.mono hb8 ?_)) | (with_reducible refine Below.trans ?_ (Below.mono hb9 ?_)) | (focus (first | omega | (simp; done) | (simp; omega))) | exact hB))) (rC.none_.call (by repeat (first | (with_reducible exact Below.refl _ _) | (with_reducible assumption) | (with_reducible refine Below.drew ?_) | (with_reducible refine Below.alloc ?_ ?_ _) | (with_reducible refine Below.setCell ?_ ?_ _) | (with_reducible refine Below.trans ?_ (Below.mono hb ?_)) | (with_reducible refine Below.trans ?_ (Below.mono hb1 ?_)) | (with_reducible refine Below.trans ?_ (Below.mono hb2 ?_)) | (with_reducible refine Below.trans ?_ (Below.mono hb3 ?_)) | (with_reducible refine Below.trans ?_ (Below.mono hb4 ?_)) | (with_reducible refine Below.trans ?_ (Below.mono hb5 ?_)) | (with_reducible refine Below.trans ?_ (Below.mono hb6 ?_)) | (with_reducible refine Below.trans ?_ (Below.mono hb7 ?_)) | (with_reducible refine Below.trans ?_ (Below.mono hb8 ?_)) | (with_reducible refine Below.trans ?_ (Below.mono hb9 ?_)) | (focus (first | omega | (simp; done) | (simp; omega))) | exact hB))) (rD.none_.call (by repeat (first | (with_reducible exact Below.refl _ _) | (with_reducible assumption) | (with_reducible refine Below.drew ?_) | (with_reducible refine Below.alloc ?_ ?_ _) | (with_reducible refine Below.setCell ?_ ?_ _) | (with_reducible refine Below.trans ?_ (Below.mono hb ?_)) | (with_reducible refine Below.trans ?_ (Below.mono hb1 ?_)) | (with_reducible refine Below.trans ?_ (Below.mono hb2 ?_)) | (with_reducible refine Below.trans ?_ (Below.mono hb3 ?_)) | (with_reducible refine Below.trans ?_ (Below.mono hb4 ?_)) | (with_reducible refine Below.trans ?_ (Below.mono hb5 ?_)) | (with_reducible refine Below.trans ?_ (Below.mono hb6 ?_)) | (with_reducible refine Below.trans ?_ (Below.mono hb7 ?_)) | (with_reducible refine Below.trans ?_ (Below.mono hb8 ?_)) | (with_reducible refine Below.trans ?_ (Below.mono hb9 ?_)) | (focus (first | omega | (simp; done) | (simp; omega))) | exact hB)))).mono ?_; rintro e w4 ⟨rfl, hb4⟩))
  refine at_world fun W1 hW1 => ?_
  have un : Unt W1 (.pointer (some ⟨w4.heap.size, 0, none⟩)) (some w4.heap.size) 0 := by subst hW1; exact Unt.at_ ((Below.heap_alloc _ _ _ (by simp)).trans (heap_alloc_new w4 _))
  have vn : Unr W1 (w4.heap.size + 1) 0 := by subst hW1; exact newest_at _ _ (by simp)
  have z4 := hb4.size
  have BK : Below wc.heap.size wc W1 := by subst hW1; exact (hb4.alloc (by omega) _).alloc (by simp; omega) _
  have BW1 := BWc.trans (BK.mono BWc.size)
  have bX := hp_call bXc BK
  have bY1 := hp_call bY BK
  have bR := hp_call bRc BK
  have rQ := rQc.call BK
  have s1 := (r1c.weak (T := four X Y w4.heap.size (w4.heap.size + 1)) (by rintro b (rfl | rfl | rfl | rfl) <;> omega)).call BK
  have s2 := (r2c.weak (T := four X Y w4.heap.size (w4.heap.size + 1)) (by rintro b (rfl | rfl | rfl | rfl) <;> omega)).call BK
  have s3 := (rC.up.weak (T := four X Y w4.heap.size (w4.heap.size + 1)) (by rintro b (rfl | rfl | rfl | rfl) <;> omega)).call BK
  have s4 := (rD.up.weak (T := four X Y w4.heap.size (w4.heap.size + 1)) (by rintro b (rfl | rfl | rfl | rfl) <;> omega)).call BK
  have HI : ORun w W1 r m X Y w4.heap.size n 0 := ⟨A1, A2, C, D, c1, c2, cr, cs, ps, List.replicate n 0, 0, bX, bY1, s1, s2, s3, s4, hp, all_zero0 n, un, vn, by omega, by omega, BW1, bR⟩
  have d1 : Y < w4.heap.size := by omega
  have d2 : X < Y := lXY
  clear hW1 hb4 z4 un vn bX bY1 bR s1 s2 s3 s4 BK r1c r2c rC rD rpc rQc k0 k1 k2 k3 bXc bRc bY BWc zc lYc
  generalize w4.heap.size = G at *
  clear rQ
  go_loopw [57] (fun i wr => ∃ k : Nat, k ≤ L ∧ i = .int .i64 k ∧ ORun w wr r m X Y G n k) (fun i _ => L - (intOf i).toNat)
  case atStart => exact ⟨0, Nat.zero_le _, rfl, HI⟩
  case round =>
    clear HI
    obtain ⟨k, hk, rfl, hR⟩ := hrel
    by_cases hlt : k < L
    · obtain ⟨AP, AB, C', D', cP, cB, cr', cs', qs, bs, c, bX, bY, s1, s2, s3, s4, hq, hbs, un, vn, hc0, hc, BWr, bR⟩ := hR
      have rQ := HQ.out.call BWr
      obtain ⟨bq, oq, rfl, lq, hcq⟩ := rQ.1 (by omega)
      have cq := hcq k hlt
      have ia : (0 : Int) ≤ (k : Int) := by omega
      have ib : (k : Int) < (L : Int) := by omega
      by_cases hlen : Lr k = n
      · have hG64 := (HQ.out.2 k hlt).2
        have rg := (((HQ.out.2 k hlt).1.apart (S := fun b => w.heap.size ≤ b) fun _ h => h).call BWr).weak (T := four X Y G (G + 1)) (by rintro b (rfl | rfl | rfl | rfl) <;> omega)
        have lX := lt_of_block bX
        have lY := lt_of_block bY
        have lG := un.lt G rfl
        have lH := vn.lt
        clear hcq rQ lq
        rw [hlen] at cq rg
        clear hlen
        generalize Ar k = Ag at *
        generalize Cr k = cg at *
        generalize Zr k = gs at *
        have q1 := cntI_bound (axV m bs gs) n
        have q2 := cntI_bound (axV m (obV m bs gs n) gs) n
        have q3 := cntI_bound (axV (-r) (odV m bs gs n) qs) n
        have HC : 0 ≤ ocN r m qs bs gs n ∧ ocN r m qs bs gs n ≤ 60 := by unfold ocN; omega
        have x0 := cell_of_row wr X 0 _ _ _ bX
        have x1 := cell_of_row wr X 1 _ _ _ bX
        have r0 := cell_of_row wr w.heap.size 0 _ _ _ bR
        have r1 := cell_of_row wr w.heap.size 1 _ _ _ bR
        simp only [List.getElem?_toArray, List.getElem?_cons_zero, List.getElem?_cons_succ] at x0 x1 r0 r1
        clear q1 q2 q3
        go_wp2_with fail
        clear x0 x1 r0 r1
        refine (ostep_any AP AB Ag n cP cB cg qs bs gs _ (some G) c r m wr hr hr1 hm hm1 (by omega) hq hbs hG64 (s1.at_ (.inr (.inr (.inl rfl)))) (s2.at_ (.inr (.inr (.inl rfl)))) (rg.at_ (.inr (.inr (.inl rfl)))) un hc0 (by omega)).mono ?_
        rintro e w5 ⟨VP, VB, rfl, hP, hZ, hG, hUn⟩
        obtain ⟨AP2, cP2, rfl, p1⟩ := hP.apart (S := four X Y G (G + 1)) (rowI_length _ n) (by rintro b (rfl | rfl | rfl | rfl) <;> omega)
        obtain ⟨AB2, cB2, rfl, p2⟩ := hZ.apart (S := four X Y G (G + 1)) (rowI_length _ n) (by rintro b (rfl | rfl | rfl | rfl) <;> omega)
        have s3' := s3.grow hG (.inr (.inr (.inl rfl)))
        have s4' := s4.grow hG (.inr (.inr (.inl rfl)))
        have rg' := rg.grow hG (.inr (.inr (.inl rfl)))
        have bX5 := hp_grown bX hG (by simp; omega)
        have bY5 := hp_grown bY hG (by simp; omega)
        have bR5 := hp_grown bR hG (by simp; omega)
        have vn5 := vn.grown hG (by simp)
        have BW5 := BWr.trans (gr_new hG (B := w.heap.size) (by have := lt_of_block bR; omega) (by omega))
        clear hP hZ s1 s2 s3 s4 rg bX bY bR vn un hG
        have x0 := cell_of_row w5 X 0 _ _ _ bX5
        have x1 := cell_of_row w5 X 1 _ _ _ bX5
        simp only [List.getElem?_toArray, List.getElem?_cons_zero, List.getElem?_cons_succ] at x0 x1
        have xf : ∀ i, w5.frozen? ⟨X, i, none⟩ = false := fun i => by simp [World.frozen?, bX5]
        have lwX : w.heap.size < X := by assumption
        go_wp2_with fail
        clear x0 x1 xf
        refine at_world fun W0 hW0 => ?_
        have bX6 : W0.heap[X]? = some (.cells #[.slice AP2 n cP2, .slice AB2 n cB2] 28 (0, 0)) := by subst hW0; exact hp2_1 _ (hp2_0 _ bX5)
        have bY6 : W0.heap[Y]? = some (.cells #[.slice C' n cr', .slice D' n cs'] 47 (0, 0)) := by subst hW0; exact hp_set (hp_set bY5 (by simp; omega) _) (by simp; omega) _
        have bR6 : W0.heap[w.heap.size]? = some (.cells #[.int .i64 r, .int .i64 m] 24 (0, 0)) := by subst hW0; exact hp_set (hp_set bR5 (by simp; omega) _) (by simp; omega) _
        have t1 : RdS W0 (four X Y G (G + 1)) AP2 n (opV r m qs bs gs n) := by subst hW0; exact (p1.set (.inl rfl) _).set (.inl rfl) _
        have t2 : RdS W0 (four X Y G (G + 1)) AB2 n (obV m bs gs n) := by subst hW0; exact (p2.set (.inl rfl) _).set (.inl rfl) _
        have t3 : RdS W0 (four X Y G (G + 1)) C' n qs := by subst hW0; exact (s3'.set (.inl rfl) _).set (.inl rfl) _
        have t4 : RdS W0 (four X Y G (G + 1)) D' n bs := by subst hW0; exact (s4'.set (.inl rfl) _).set (.inl rfl) _
        have tg : RdS W0 (four X Y G (G + 1)) Ag n gs := by subst hW0; exact (rg'.set (.inl rfl) _).set (.inl rfl) _
        have un6 : Unt W0 (.pointer (some ⟨G, 0, none⟩)) (some G) (c + ocN r m qs bs gs n) := by subst hW0; exact (hUn.setc (by rintro _ ⟨⟩; simp; omega) _).setc (by rintro _ ⟨⟩; simp; omega) _
        have vn6 : Unr W0 (G + 1) c := by subst hW0; exact (vn5.setc (by simp; omega) _).setc (by simp; omega) _
        have BW6 : Below w.heap.size w W0 := by subst hW0; exact (BW5.setCell (by show w.heap.size ≤ X; omega) _).setCell (by show w.heap.size ≤ X; omega) _
        clear hW0 p1 p2 s3' s4' rg' bX5 bY5 bR5 vn5 BW5 hUn
        have HLg := Lib.hid tg.1
        have lX6 := lt_of_block bX6
        have lY6 := lt_of_block bY6
        have lR6 := lt_of_block bR6
        have lG6 := un6.lt G rfl
        have lH6 := vn6.lt
        have m1 : ¬ w.heap.size = G + 1 := by omega
        have m2 : ¬ Y = G + 1 := by omega
        have r0 := cell_of_row W0 w.heap.size 0 _ _ _ bR6
        have r1 := cell_of_row W0 w.heap.size 1 _ _ _ bR6
        have y0 := cell_of_row W0 Y 0 _ _ _ bY6
        have y1 := cell_of_row W0 Y 1 _ _ _ bY6
        simp only [List.getElem?_toArray, List.getElem?_cons_zero, List.getElem?_cons_succ] at r0 r1 y0 y1
        have HBX := Lib.hid bX6
        have HBY := Lib.hid bY6
        have HBR := Lib.hid bR6
        clear bX6 bY6 bR6 lX lY lG lH cq
        have hB := Below.refl W0.heap.size W0
        have hs := World.grownBy.refl W0 (some (G + 1))
        go_cut [9] (fun v w' => RunCut2 w w' r m X Y G n (opV r m qs bs gs n) (obV m bs gs n) (c + ocN r m qs bs gs n) v)
        case first =>
          go_region_with
            (first
              | (go_at_call 15; refine (plain10_any Ag n cg gs _ (by omega) (tg.none_.call (by repeat (first | (with_reducible exact Below.refl _ _) | (with_reducible assumption) | (with_reducible refine Below.drew ?_) | (with_reducible refine Below.alloc ?_ ?_ _) | (with_reducible refine Below.setCell ?_ ?_ _) | (with_reducible refine Below.trans ?_ (Below.mono hb ?_)) | (with_reducible refine Below.trans ?_ (Below.mono hb1 ?_)) | (with_reducible refine Below.trans ?_ (Below.mono hb2 ?_)) | (with_reducible refine Below.trans ?_ (Below.mono hb3 ?_)) | (with_reducible refine Below.trans ?_ (Below.mono hb4 ?_)) | (with_reducible refine Below.trans ?_ (Below.mono hb5 ?_)) | (with_reducible refine Below.trans ?_ (Below.mono hb6 ?_)) | (with_reducible refine Below.trans ?_ (Below.mono hb7 ?_)) | (with_reducible refine Below.trans ?_ (Below.mono hb8 ?_)) | (with_reducible refine Below.trans ?_ (Below.mono hb9 ?_)) | (focus (first | omega | (simp; done) | (simp; omega))) | exact hB)))).mono ?_; rintro e x3 ⟨V3, rfl, hO3, hb3⟩; replace hb3 := undrew hb3; obtain ⟨hc3, hf3, z3⟩ := bcell hb3; obtain ⟨A3, c3, rfl, r3⟩ := hO3.apart (S := four X Y G (G + 1)) HLg.out (by rintro b (rfl | rfl | rfl | rfl) <;> assumption))
              | (go_at_call 14; refine (rstep_any C' D' A3 n cr' cs' c3 (G + 1) qs bs gs c r m _ hr hr1 hm hm1 (by omega) hq hbs hG64 ((t3.at_ (.inr (.inr (.inr rfl)))).call (by repeat (first | (with_reducible exact Below.refl _ _) | (with_reducible assumption) | (with_reducible refine Below.drew ?_) | (with_reducible refine Below.alloc ?_ ?_ _) | (with_reducible refine Below.setCell ?_ ?_ _) | (with_reducible refine Below.trans ?_ (Below.mono hb ?_)) | (with_reducible refine Below.trans ?_ (Below.mono hb1 ?_)) | (with_reducible refine Below.trans ?_ (Below.mono hb2 ?_)) | (with_reducible refine Below.trans ?_ (Below.mono hb3 ?_)) | (with_reducible refine Below.trans ?_ (Below.mono hb4 ?_)) | (with_reducible refine Below.trans ?_ (Below.mono hb5 ?_)) | (with_reducible refine Below.trans ?_ (Below.mono hb6 ?_)) | (with_reducible refine Below.trans ?_ (Below.mono hb7 ?_)) | (with_reducible refine Below.trans ?_ (Below.mono hb8 ?_)) | (with_reducible refine Below.trans ?_ (Below.mono hb9 ?_)) | (focus (first | omega | (simp; done) | (simp; omega))) | exact hB))) ((t4.at_ (.inr (.inr (.inr rfl)))).call (by repeat (first | (with_reducible exact Below.refl _ _) | (with_reducible assumption) | (with_reducible refine Below.drew ?_) | (with_reducible refine Below.alloc ?_ ?_ _) | (with_reducible refine Below.setCell ?_ ?_ _) | (with_reducible refine Below.trans ?_ (Below.mono hb ?_)) | (with_reducible refine Below.trans ?_ (Below.mono hb1 ?_)) | (with_reducible refine Below.trans ?_ (Below.mono hb2 ?_)) | (with_reducible refine Below.trans ?_ (Below.mono hb3 ?_)) | (with_reducible refine Below.trans ?_ (Below.mono hb4 ?_)) | (with_reducible refine Below.trans ?_ (Below.mono hb5 ?_)) | (with_reducible refine Below.trans ?_ (Below.mono hb6 ?_)) | (with_reducible refine Below.trans ?_ (Below.mono hb7 ?_)) | (with_reducible refine Below.trans ?_ (Below.mono hb8 ?_)) | (with_reducible refine Below.trans ?_ (Below.mono hb9 ?_)) | (focus (first | omega | (simp; done) | (simp; omega))) | exact hB))) ((r3.at_ (.inr (.inr (.inr rfl)))).call (by repeat (first | (with_reducible exact Below.refl _ _) | (with_reducible assumption) | (with_reducible refine Below.drew ?_) | (with_reducible refine Below.alloc ?_ ?_ _) | (with_reducible refine Below.setCell ?_ ?_ _) | (with_reducible refine Below.trans ?_ (Below.mono hb ?_)) | (with_reducible refine Below.trans ?_ (Below.mono hb1 ?_)) | (with_reducible refine Below.trans ?_ (Below.mono hb2 ?_)) | (with_reducible refine Below.trans ?_ (Below.mono hb3 ?_)) | (with_reducible refine Below.trans ?_ (Below.mono hb4 ?_)) | (with_reducible refine Below.trans ?_ (Below.mono hb5 ?_)) | (with_reducible refine Below.trans ?_ (Below.mono hb6 ?_)) | (with_reducible refine Below.trans ?_ (Below.mono hb7 ?_)) | (with_reducible refine Below.trans ?_ (Below.mono hb8 ?_)) | (with_reducible refine Below.trans ?_ (Below.mono hb9 ?_)) | (focus (first | omega | (simp; done) | (simp; omega))) | exact hB))) (vn6.call (by repeat (first | (with_reducible exact Below.refl _ _) | (with_reducible assumption) | (with_reducible refine Below.drew ?_) | (with_reducible refine Below.alloc ?_ ?_ _) | (with_reducible refine Below.setCell ?_ ?_ _) | (with_reducible refine Below.trans ?_ (Below.mono hb ?_)) | (with_reducible refine Below.trans ?_ (Below.mono hb1 ?_)) | (with_reducible refine Below.trans ?_ (Below.mono hb2 ?_)) | (with_reducible refine Below.trans ?_ (Below.mono hb3 ?_)) | (with_reducible refine Below.trans ?_ (Below.mono hb4 ?_)) | (with_reducible refine Below.trans ?_ (Below.mono hb5 ?_)) | (with_reducible refine Below.trans ?_ (Below.mono hb6 ?_)) | (with_reducible refine Below.trans ?_ (Below.mono hb7 ?_)) | (with_reducible refine Below.trans ?_ (Below.mono hb8 ?_)) | (with_reducible refine Below.trans ?_ (Below.mono hb9 ?_)) | (focus (first | omega | (simp; done) | (simp; omega))) | exact hB))) hc0 (by omega)).mono ?_; rintro e x6 ⟨VP, VB, rfl, hP6, hZ6, hg6, vn7⟩; have hs : W0.grownBy x6 (some (G + 1)) := gr_trans (gr_below hb3 _) hg6; obtain ⟨C2, cr2, rfl, p3⟩ := hP6.apart (S := four X Y G (G + 1)) (rowI_length _ n) (by rintro b (rfl | rfl | rfl | rfl) <;> first | omega | (simp; omega)); obtain ⟨D2, cs2, rfl, p4⟩ := hZ6.apart (S := four X Y G (G + 1)) (rowI_length _ n) (by rintro b (rfl | rfl | rfl | rfl) <;> first | omega | (simp; omega)); clear hP6 hZ6; have HBY7 := Lib.hid (hp_grown HBY.out hs (by simp; omega)); have y2 := cell_of_row x6 Y 0 _ _ _ HBY7.out; have y3 := cell_of_row x6 Y 1 _ _ _ HBY7.out; simp only [List.getElem?_toArray, List.getElem?_cons_zero, List.getElem?_cons_succ] at y2 y3; have yf : ∀ i, x6.frozen? ⟨Y, i, none⟩ = false := (fun i => by simp [World.frozen?, HBY7.out])))
          all_goals
            go_wp2_with fail
            go_meet
            case rel => exact runCut2 hs HBX.out HBY7.out HBR.out t1 t2 p3 p4 un6 vn7 rfl BW6 (by omega) (by omega) (by omega)
        case rest =>
        obtain ⟨AP3, AB3, C3, D3, cP3, cB3, cr3, cs3, rfl, bX7, bY7, s1, s2, s3, s4, un, vn, BW7, bR7⟩ := hcut
        clear t1 t2 t3 t4 tg un6 vn6 BW6 hs hB
        have h0 : 0 ≤ c + ocN r m qs bs gs n := by omega
        have h1 : c + ocN r m qs bs gs n ≤ 60 * ((k + 1 : Nat) : Int) := by omega
        have aO : All64 (opV r m qs bs gs n) := rowI_all _ _
        have aB : All64 (obV m bs gs n) := rowI_all _ _
        generalize c + ocN r m qs bs gs n = c2 at *
        generalize opV r m qs bs gs n = qs2 at *
        generalize obV m bs gs n = bs2 at *
        have lX := lt_of_block bX7
        have lY := lt_of_block bY7
        have lH := vn.lt
        have x0 := cell_of_row wc X 0 _ _ _ bX7
        have x1 := cell_of_row wc X 1 _ _ _ bX7
        have y0 := cell_of_row wc Y 0 _ _ _ bY7
        have y1 := cell_of_row wc Y 1 _ _ _ bY7
        simp only [List.getElem?_toArray, List.getElem?_cons_zero, List.getElem?_cons_succ] at x0 x1 y0 y1
        have g0 := cell_of_one vn
        have e1 := pack_cell x0 lX
        have e2 := pack_cell x1 lX
        have e3 := pack_cell y0 lY
        have e4 := pack_cell y1 lY
        have e5 := pack_cell g0 lH
        have UC := Lib.hid (fun W hU => ucount_some G c2 W hU)
        have HI : ORun w wc r m X Y G n (k + 1) := ⟨AP3, AB3, C3, D3, cP3, cB3, cr3, cs3, qs2, bs2, c2, bX7, bY7, s1, s2, s3, s4, aO, aB, un, vn, h0, h1, BW7, bR7⟩
        clear x0 x1 y0 y1 g0 bX7 bY7 bR7 h0 h1 HC HBX HBY HBR r0 r1 aO aB
        go_wp2_with fail
        refine wp_region_pack (by kernel_rfl) (by kernel_rfl) ?_
        repeat (first | go_big_quiet_skip | (go_big_quiet_want; go_big_quiet_op; first | go_big_quiet_on | (apply Exists.intro; refine ⟨fun npk => ?_, ?_⟩; (focus (first | (go_at_call 16; exact pack_call (like10_any AP3 AB3 C3 D3 n cP3 cB3 cr3 cs3 qs2 bs2 _ (by omega) (s1.none_.call npk.ok) (s2.none_.call npk.ok) (s3.none_.call npk.ok) (s4.none_.call npk.ok))) | (go_at_call 13; exact pack_call (UC.out _ (un.call npk.ok))))); go_big_quiet_on)))
        refine wpQuiet_nil ?_
        intro nq
        have HI2 := HI.call nq.ok
        go_wp2_with fail
        go_roundw
        case rel => exact ⟨k + 1, by omega, by simp, HI2⟩
        case measure => simp [intOf]; omega
      · have t0 : (((Lr k : Nat) : Int) != (n : Int)) = true := by simp; omega
        go_wp2_with fail
        go_ret
        exact ⟨rfl, BWr⟩
    · have BWr := hR.below
      go_wp2_with fail
      go_ret
      exact ⟨rfl, BWr⟩
set_option maxHeartbeats 1000000 in
set_option maxRecDepth 100000 in
theorem oruns_big (A Q : Option Addr) (n cp L cq : Nat) (r m : Int) (w : World) (hn : 20 < n) :
    Calls Try.prog 5 #[.agg #[.int .i64 r, .int .i64 m], .slice A n cp, .slice Q L cq] w fun e w' => e = .returned (.bool true) ∧ Below w.heap.size w w' := by
  have AW := Lib.hid (fun W => awake10_any W)
  go_enter Try.func5, Try.ntmps5
  go_wp2_with (go_at_call 8; refine (AW.out _).mono ?_; rintro e w1 ⟨rfl, hb1⟩; obtain ⟨hc1, hf1, hz1⟩ := bcell hb1; (try simp at hz1); (try have : w.heap.size < w1.heap.size := by omega); (try have : w.heap.size + 1 < w1.heap.size := by omega); (try have : w.heap.size + 1 + 1 < w1.heap.size := by omega); (try have : w.heap.size + 1 + 1 + 1 < w1.heap.size := by omega); (try have : g < w1.heap.size := by omega); (try have : ga < w1.heap.size := by omega); (try have : gb < w1.heap.size := by omega); (try have : gc < w1.heap.size := by omega); have hB : Below w.heap.size w w1 := (by repeat (first | (with_reducible exact Below.refl _ _) | (with_reducible assumption) | (with_reducible refine Below.drew ?_) | (with_reducible refine Below.alloc ?_ ?_ _) | (with_reducible refine Below.setCell ?_ ?_ _) | (with_reducible refine Below.trans ?_ (Below.mono hb ?_)) | (with_reducible refine Below.trans ?_ (Below.mono hb1 ?_)) | (with_reducible refine Below.trans ?_ (Below.mono hb2 ?_)) | (with_reducible refine Below.trans ?_ (Below.mono hb3 ?_)) | (with_reducible refine Below.trans ?_ (Below.mono hb4 ?_)) | (with_reducible refine Below.trans ?_ (Below.mono hb5 ?_)) | (with_reducible refine Below.trans ?_ (Below.mono hb6 ?_)) | (with_reducible refine Below.trans ?_ (Below.mono hb7 ?_)) | (with_reducible refine Below.trans ?_ (Below.mono hb8 ?_)) | (with_reducible refine Below.trans ?_ (Below.mono hb9 ?_)) | (focus (first | omega | (simp; done) | (simp; omega))) | exact hB)))
  go_ret
  exact ⟨rfl, (by repeat (first | (with_reducible exact Below.refl _ _) | (with_reducible assumption) | (with_reducible refine Below.drew ?_) | (with_reducible refine Below.alloc ?_ ?_ _) | (with_reducible refine Below.setCell ?_ ?_ _) | (with_reducible refine Below.trans ?_ (Below.mono hb ?_)) | (with_reducible refine Below.trans ?_ (Below.mono hb1 ?_)) | (with_reducible refine Below.trans ?_ (Below.mono hb2 ?_)) | (with_reducible refine Below.trans ?_ (Below.mono hb3 ?_)) | (with_reducible refine Below.trans ?_ (Below.mono hb4 ?_)) | (with_reducible refine Below.trans ?_ (Below.mono hb5 ?_)) | (with_reducible refine Below.trans ?_ (Below.mono hb6 ?_)) | (with_reducible refine Below.trans ?_ (Below.mono hb7 ?_)) | (with_reducible refine Below.trans ?_ (Below.mono hb8 ?_)) | (with_reducible refine Below.trans ?_ (Below.mono hb9 ?_)) | (focus (first | omega | (simp; done) | (simp; omega))) | exact hB))⟩
set_option maxHeartbeats 1000000 in
set_option maxRecDepth 100000 in
theorem oruns_many (A Q : Option Addr) (n cp L cq : Nat) (r m : Int) (w : World) (hn : n ≤ 20) (hL : 30 < L) :
    Calls Try.prog 5 #[.agg #[.int .i64 r, .int .i64 m], .slice A n cp, .slice Q L cq] w fun e w' => e = .returned (.bool true) ∧ Below w.heap.size w w' := by
  have AW := Lib.hid (fun W => awake10_any W)
  go_enter Try.func5, Try.ntmps5
  go_wp2_with (go_at_call 8; refine (AW.out _).mono ?_; rintro e w1 ⟨rfl, hb1⟩; obtain ⟨hc1, hf1, hz1⟩ := bcell hb1; (try simp at hz1); (try have : w.heap.size < w1.heap.size := by omega); (try have : w.heap.size + 1 < w1.heap.size := by omega); (try have : w.heap.size + 1 + 1 < w1.heap.size := by omega); (try have : w.heap.size + 1 + 1 + 1 < w1.heap.size := by omega); (try have : g < w1.heap.size := by omega); (try have : ga < w1.heap.size := by omega); (try have : gb < w1.heap.size := by omega); (try have : gc < w1.heap.size := by omega); have hB : Below w.heap.size w w1 := (by repeat (first | (with_reducible exact Below.refl _ _) | (with_reducible assumption) | (with_reducible refine Below.drew ?_) | (with_reducible refine Below.alloc ?_ ?_ _) | (with_reducible refine Below.setCell ?_ ?_ _) | (with_reducible refine Below.trans ?_ (Below.mono hb ?_)) | (with_reducible refine Below.trans ?_ (Below.mono hb1 ?_)) | (with_reducible refine Below.trans ?_ (Below.mono hb2 ?_)) | (with_reducible refine Below.trans ?_ (Below.mono hb3 ?_)) | (with_reducible refine Below.trans ?_ (Below.mono hb4 ?_)) | (with_reducible refine Below.trans ?_ (Below.mono hb5 ?_)) | (with_reducible refine Below.trans ?_ (Below.mono hb6 ?_)) | (with_reducible refine Below.trans ?_ (Below.mono hb7 ?_)) | (with_reducible refine Below.trans ?_ (Below.mono hb8 ?_)) | (with_reducible refine Below.trans ?_ (Below.mono hb9 ?_)) | (focus (first | omega | (simp; done) | (simp; omega))) | exact hB)))
  go_ret
  exact ⟨rfl, (by repeat (first | (with_reducible exact Below.refl _ _) | (with_reducible assumption) | (with_reducible refine Below.drew ?_) | (with_reducible refine Below.alloc ?_ ?_ _) | (with_reducible refine Below.setCell ?_ ?_ _) | (with_reducible refine Below.trans ?_ (Below.mono hb ?_)) | (with_reducible refine Below.trans ?_ (Below.mono hb1 ?_)) | (with_reducible refine Below.trans ?_ (Below.mono hb2 ?_)) | (with_reducible refine Below.trans ?_ (Below.mono hb3 ?_)) | (with_reducible refine Below.trans ?_ (Below.mono hb4 ?_)) | (with_reducible refine Below.trans ?_ (Below.mono hb5 ?_)) | (with_reducible refine Below.trans ?_ (Below.mono hb6 ?_)) | (with_reducible refine Below.trans ?_ (Below.mono hb7 ?_)) | (with_reducible refine Below.trans ?_ (Below.mono hb8 ?_)) | (with_reducible refine Below.trans ?_ (Below.mono hb9 ?_)) | (focus (first | omega | (simp; done) | (simp; omega))) | exact hB))⟩
set_option maxHeartbeats 1000000 in
set_option maxRecDepth 100000 in
theorem oruns_wrong (A Q : Option Addr) (n cp L cq : Nat) (r m : Int) (w : World) (hn : n ≤ 20) (hL : L ≤ 30) (h : r < 0 ∨ m < 0 ∨ 4294967296 ≤ m) :
    Calls Try.prog 5 #[.agg #[.int .i64 r, .int .i64 m], .slice A n cp, .slice Q L cq] w fun e w' => e = .returned (.bool true) ∧ Below w.heap.size w w' := by
  have AW := Lib.hid (fun W => awake10_any W)
  have RG := Lib.hid (fun W => right10_any r m W)
  have e0 : (decide (0 ≤ r) && (decide (0 ≤ m) && decide (m < 4294967296))) = false := by simp; omega
  rw [e0] at RG
  clear e0 h
  go_enter Try.func5, Try.ntmps5
  go_wp2_with (first
    | (go_at_call 8; refine (AW.out _).mono ?_; rintro e w1 ⟨rfl, hb1⟩; obtain ⟨hc1, hf1, hz1⟩ := bcell hb1; (try simp at hz1); (try have : w.heap.size < w1.heap.size := by omega); (try have : w.heap.size + 1 < w1.heap.size := by omega); (try have : w.heap.size + 1 + 1 < w1.heap.size := by omega); (try have : w.heap.size + 1 + 1 + 1 < w1.heap.size := by omega); (try have : g < w1.heap.size := by omega); (try have : ga < w1.heap.size := by omega); (try have : gb < w1.heap.size := by omega); (try have : gc < w1.heap.size := by omega); have hB : Below w.heap.size w w1 := (by repeat (first | (with_reducible exact Below.refl _ _) | (with_reducible assumption) | (with_reducible refine Below.drew ?_) | (with_reducible refine Below.alloc ?_ ?_ _) | (with_reducible refine Below.setCell ?_ ?_ _) | (with_reducible refine Below.trans ?_ (Below.mono hb ?_)) | (with_reducible refine Below.trans ?_ (Below.mono hb1 ?_)) | (with_reducible refine Below.trans ?_ (Below.mono hb2 ?_)) | (with_reducible refine Below.trans ?_ (Below.mono hb3 ?_)) | (with_reducible refine Below.trans ?_ (Below.mono hb4 ?_)) | (with_reducible refine Below.trans ?_ (Below.mono hb5 ?_)) | (with_reducible refine Below.trans ?_ (Below.mono hb6 ?_)) | (with_reducible refine Below.trans ?_ (Below.mono hb7 ?_)) | (with_reducible refine Below.trans ?_ (Below.mono hb8 ?_)) | (with_reducible refine Below.trans ?_ (Below.mono hb9 ?_)) | (focus (first | omega | (simp; done) | (simp; omega))) | exact hB)))
    | (go_at_call 12; refine (RG.out _).mono ?_; rintro e w2 ⟨rfl, hb2⟩; obtain ⟨hc2, hf2, hz2⟩ := bcell hb2; (try simp at hz2); (try have : w.heap.size < w2.heap.size := by omega); (try have : w.heap.size + 1 < w2.heap.size := by omega); (try have : w.heap.size + 1 + 1 < w2.heap.size := by omega); (try have : w.heap.size + 1 + 1 + 1 < w2.heap.size := by omega); (try have : w1.heap.size < w2.heap.size := by omega); (try have : w1.heap.size + 1 < w2.heap.size := by omega); (try have : w1.heap.size + 1 + 1 < w2.heap.size := by omega); (try have : w1.heap.size + 1 + 1 + 1 < w2.heap.size := by omega); (try have : g < w2.heap.size := by omega); (try have : ga < w2.heap.size := by omega); (try have : gb < w2.heap.size := by omega); (try have : gc < w2.heap.size := by omega); have hB : Below w.heap.size w w2 := (by repeat (first | (with_reducible exact Below.refl _ _) | (with_reducible assumption) | (with_reducible refine Below.drew ?_) | (with_reducible refine Below.alloc ?_ ?_ _) | (with_reducible refine Below.setCell ?_ ?_ _) | (with_reducible refine Below.trans ?_ (Below.mono hb ?_)) | (with_reducible refine Below.trans ?_ (Below.mono hb1 ?_)) | (with_reducible refine Below.trans ?_ (Below.mono hb2 ?_)) | (with_reducible refine Below.trans ?_ (Below.mono hb3 ?_)) | (with_reducible refine Below.trans ?_ (Below.mono hb4 ?_)) | (with_reducible refine Below.trans ?_ (Below.mono hb5 ?_)) | (with_reducible refine Below.trans ?_ (Below.mono hb6 ?_)) | (with_reducible refine Below.trans ?_ (Below.mono hb7 ?_)) | (with_reducible refine Below.trans ?_ (Below.mono hb8 ?_)) | (with_reducible refine Below.trans ?_ (Below.mono hb9 ?_)) | (focus (first | omega | (simp; done) | (simp; omega))) | exact hB))))
  go_ret
  exact ⟨rfl, (by repeat (first | (with_reducible exact Below.refl _ _) | (with_reducible assumption) | (with_reducible refine Below.drew ?_) | (with_reducible refine Below.alloc ?_ ?_ _) | (with_reducible refine Below.setCell ?_ ?_ _) | (with_reducible refine Below.trans ?_ (Below.mono hb ?_)) | (with_reducible refine Below.trans ?_ (Below.mono hb1 ?_)) | (with_reducible refine Below.trans ?_ (Below.mono hb2 ?_)) | (with_reducible refine Below.trans ?_ (Below.mono hb3 ?_)) | (with_reducible refine Below.trans ?_ (Below.mono hb4 ?_)) | (with_reducible refine Below.trans ?_ (Below.mono hb5 ?_)) | (with_reducible refine Below.trans ?_ (Below.mono hb6 ?_)) | (with_reducible refine Below.trans ?_ (Below.mono hb7 ?_)) | (with_reducible refine Below.trans ?_ (Below.mono hb8 ?_)) | (with_reducible refine Below.trans ?_ (Below.mono hb9 ?_)) | (focus (first | omega | (simp; done) | (simp; omega))) | exact hB))⟩
theorem outerRuns_walk (r m : Int) (A : Option Addr) (n cp : Nat) (ps : List Int) (Q : Option Addr) (L cq : Nat) (Ar : Nat → Option Addr) (Lr Cr : Nat → Nat) (Zr : Nat → List Int) (w : World) (i0 : In64 r ∧ In64 m) (i1 : Row64 w A n ps) (i2 : RdL w Q L Ar Lr Cr Zr) :
    Calls Try.prog 5 #[.agg #[.int .i64 r, .int .i64 m], .slice A n cp, .slice Q L cq] w fun e w' => e = .returned (.bool true) ∧ Below w.heap.size w w' := by
  by_cases h1 : 20 < n
  · exact oruns_big A Q n cp L cq r m w h1
  · by_cases h2 : 30 < L
    · exact oruns_many A Q n cp L cq r m w (by omega) h2
    · by_cases h3 : r < 0 ∨ m < 0 ∨ 4294967296 ≤ m
      · exact oruns_wrong A Q n cp L cq r m w (by omega) (by omega) h3
      · exact oruns_main A Q n cp L cq r m ps Ar Lr Cr Zr w (by omega) (by omega) (by omega) i0.1.2 (by omega) (by omega) i1.1 i1.2 i2
end Go.Proofs.Ytcdnkecgnfdfnaa
