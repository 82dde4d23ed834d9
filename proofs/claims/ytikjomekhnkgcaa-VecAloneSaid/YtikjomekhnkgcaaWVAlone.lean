import Derived.Test.YtikjomekhnkgcaaD6
import Derived.Test.YtikjomekhnkgcaaRowL
/- The law VecAlone, walked. -/
namespace Go.Proofs.Ytikjomekhnkgcaa
open Go.RowKit
attribute [local go_sem ↓] Go.wp_at_zero Go.wp_at_succ

/-- A row that may be written, its block from B on, below C. -/
def Wr (w : World) (A : Option Addr) (n B C : Nat) : Prop :=
  0 < n → ∃ b cs T, A = some ⟨b, 0, none⟩ ∧ B ≤ b ∧ b < C ∧ w.heap[b]? = some (.cells cs T (0, 0)) ∧ n ≤ cs.size
theorem Wr.call {w w' : World} {A : Option Addr} {n B C : Nat} (h : Wr w A n B C) (hb : Below w.heap.size w w') : Wr w' A n B C := fun hn => by
  obtain ⟨b, cs, T, e, h1, h2, h3, h4⟩ := h hn
  exact ⟨b, cs, T, e, h1, h2, hp_call h3 hb, h4⟩
theorem Wr.set {w : World} {A : Option Addr} {n B C : Nat} (h : Wr w A n B C) (g i : Nat) (v : Value) : Wr (w.setCell ⟨g, i, none⟩ v) A n B C := fun hn => by
  obtain ⟨b, cs, T, e, h1, h2, h3, h4⟩ := h hn
  by_cases hg : b = g
  · subst hg
    refine ⟨b, cs.setIfInBounds i v, T, e, h1, h2, ?_, by simpa using h4⟩
    simp [World.setCell, Array.getElem?_modify, h3]
  · exact ⟨b, cs, T, e, h1, h2, hp_set h3 hg v, h4⟩
theorem own_wr {B n c : Nat} {w : World} {A : Option Addr} {xs : List Int} (h : OwnF B w (.slice A n c) xs) (hl : xs.length = n) : Wr w A n B w.heap.size := fun hn => by
  rcases h.2 with ⟨h1, _⟩ | ⟨g, cap, cur, h1, h2, h3, h4, _, h6, _⟩
  · simp only [Value.slice.injEq] at h1; omega
  · simp only [Value.slice.injEq] at h1
    obtain ⟨rfl, _, rfl⟩ := h1
    exact ⟨g, cur, _, rfl, h2, lt_of_block h3, h3, by rw [h6]; omega⟩
theorem own_rdx {B n : Nat} {w : World} {V : Value} {xs : List Int} (h : OwnF B w V xs) (hl : xs.length = n) : ∃ A c, V = .slice A n c ∧ Rd w none A n xs := by
  subst hl
  obtain ⟨A, c, e, hr⟩ := own_apart (S := fun _ => False) h fun g _ hs => hs
  exact ⟨A, c, e, hr.none_⟩
theorem gr_own' {B n : Nat} {E : TypeId} {a w : World} {V : Value} {ys : List Value} (hO : a.ownsRow B E 1 V n ys) (hg : a.grownBy w V.ownBlock) (hB : B ≤ a.heap.size) : Below B a w :=
  ⟨hg.os, hg.tape, hg.output, hg.size, fun k hk => hg.block k (by omega) (fun e => by have := (World.ownsRow.lt hO k e.symm).1; omega)⟩
/-- Clip, whatever it comes to. -/
theorem vclip_len (A : Option Addr) (n cp : Nat) (xs : List Int) (U : Value) (u : Option Nat) (c most : Int) (w : World) (hm : In64 most) (hxs : All64 xs) (hn : n ≤ 65536)
    (hx : Rd w u A n xs) (hU : Unt w U u c) (hc0 : 0 ≤ c) (hc : c < 900000000) :
    Calls Try.prog 46 #[U, .slice A n cp, .int .i64 most] w fun e w' => ∃ V cut vs m, e = .returned (.tuple #[V, .bool cut, .int .i64 0]) ∧ vs.length = n ∧ OwnF w.heap.size w' V vs ∧ w.grownBy w' u ∧ Unt w' U u (c + m) := by
  by_cases h1 : most ≤ 0
  · exact (vclip_low A n cp xs U u c most w h1 hn hx hU).mono fun e w' ⟨V, h⟩ => ⟨V, _, xs, _, h.1, hx.1, h.2⟩
  · by_cases h2 : nrmI (dotI xs xs 0 1 n) ≤ most
    · exact (vclip_same A n cp xs U u c most w (by omega) hxs hn h2 hx hU hc0 hc).mono fun e w' ⟨V, h⟩ => ⟨V, _, xs, _, h.1, hx.1, h.2⟩
    · exact (vclip_cut A n cp xs U u c most w (by omega) hm hxs hn (by omega) hx hU hc0 hc).mono fun e w' ⟨V, h⟩ => ⟨V, _, _, _, h.1, rowI_length _ _, h.2⟩
set_option maxHeartbeats 4000000 in
set_option maxRecDepth 100000 in
theorem valone_main (A : Option Addr) (n cp : Nat) (xs : List Int) (most : Int) (w : World) (hn : n ≤ 200) (hA : Rd w none A n xs) (ha : All64 xs) (hm : In64 most) :
    Calls Try.prog 10 #[.slice A n cp, .int .i64 most] w fun e w' => e = .returned (.bool true) ∧ Below w.heap.size w w' := by
  have AW := Lib.hid (fun W => awake4_any W)
  have T1 := Lib.hid (decide_eq_true hn)
  have HM := Lib.hid hm
  obtain ⟨m, hm4⟩ : ∃ m, m = n + 4 := ⟨_, rfl⟩
  have i1 : IntKind.i64.wrap ((n : Int) + 4) = (m : Int) := by rw [show (n : Int) + 4 = (m : Int) by omega]; exact IntWalk.i64_in _ (by omega)
  have hm2 : m ≤ 204 := by omega
  have HA := Lib.hid hA
  obtain ⟨i0, jh, jz0, jz1, jz2⟩ := info_parts infoFix
  have hmx : m ≤ 9223372036854775807 := by omega
  clear hm hm4 hA
  go_enter Try.func10, Try.ntmps10
  go_upto_region 5 with (first
    | (go_at_call 13; refine (AW.out _).mono ?_; rintro e w1 ⟨rfl, hb1⟩; obtain ⟨hc1, hf1, hz1⟩ := bcell hb1; (try simp at hz1); (try have : w.heap.size < w1.heap.size := by omega); (try have : w.heap.size + 1 < w1.heap.size := by omega); (try have : w.heap.size + 1 + 1 < w1.heap.size := by omega); (try have : w.heap.size + 1 + 1 + 1 < w1.heap.size := by omega); (try have : g < w1.heap.size := by omega); (try have : ga < w1.heap.size := by omega); (try have : gb < w1.heap.size := by omega); (try have : gc < w1.heap.size := by omega); have hB : Below w.heap.size w w1 := (by repeat (first | (with_reducible exact Below.refl _ _) | (with_reducible assumption) | (with_reducible refine Below.drew ?_) | (with_reducible refine Below.alloc ?_ ?_ _) | (with_reducible refine Below.setCell ?_ ?_ _) | (with_reducible refine Below.trans ?_ (Below.mono hb ?_)) | (with_reducible refine Below.trans ?_ (Below.mono hb1 ?_)) | (with_reducible refine Below.trans ?_ (Below.mono hb2 ?_)) | (with_reducible refine Below.trans ?_ (Below.mono hb3 ?_)) | (with_reducible refine Below.trans ?_ (Below.mono hb4 ?_)) | (with_reducible refine Below.trans ?_ (Below.mono hb5 ?_)) | (with_reducible refine Below.trans ?_ (Below.mono hb6 ?_)) | (with_reducible refine Below.trans ?_ (Below.mono hb7 ?_)) | (with_reducible refine Below.trans ?_ (Below.mono hb8 ?_)) | (with_reducible refine Below.trans ?_ (Below.mono hb9 ?_)) | (focus (first | omega | (simp; done) | (simp; omega))) | exact hB)))
    | (go_at_call 14; refine (few4_one A n cp _ _ (by simp)).mono ?_; rw [T1.out]; rintro e w2 ⟨rfl, rfl⟩))
  refine at_world fun W2 hW2 => ?_
  have BW2 : Below w.heap.size w W2 := by subst hW2; exact (by repeat (first | (with_reducible exact Below.refl _ _) | (with_reducible assumption) | (with_reducible refine Below.drew ?_) | (with_reducible refine Below.alloc ?_ ?_ _) | (with_reducible refine Below.setCell ?_ ?_ _) | (with_reducible refine Below.trans ?_ (Below.mono hb ?_)) | (with_reducible refine Below.trans ?_ (Below.mono hb1 ?_)) | (with_reducible refine Below.trans ?_ (Below.mono hb2 ?_)) | (with_reducible refine Below.trans ?_ (Below.mono hb3 ?_)) | (with_reducible refine Below.trans ?_ (Below.mono hb4 ?_)) | (with_reducible refine Below.trans ?_ (Below.mono hb5 ?_)) | (with_reducible refine Below.trans ?_ (Below.mono hb6 ?_)) | (with_reducible refine Below.trans ?_ (Below.mono hb7 ?_)) | (with_reducible refine Below.trans ?_ (Below.mono hb8 ?_)) | (with_reducible refine Below.trans ?_ (Below.mono hb9 ?_)) | (focus (first | omega | (simp; done) | (simp; omega))) | exact hB))
  clear hW2 hb1 hc1 hf1 hB
  have hA2 := HA.out.call BW2
  go_wp2_with (first
    | (at_make; refine wpList_make_own _ rfl _ _ 22 rfl W2.heap.size 28 i0 (.int .i64 0) 1 Try.underlying22 jh jz0 jz1 .i64 .i64 m m rfl rfl rfl (by rw [jz2]; omega) (by unfold maxLen; omega) (Nat.le_refl _) ?_; intro w3 hown hgrow)
    | (at_builtin; refine app_all (B := W2.heap.size) (by have := hgrow.size; omega) hown rfl rfl (by rfl) (by rfl) (hA2.grown (u := none) hgrow) (by omega) ?_; intro v1 w4 hown4 hg4 _))
  have hb4 : Below W2.heap.size W2 w4 := (gr_none hgrow).trans (gr_own' hown hg4 hgrow.size)
  obtain ⟨G, cg, rfl, rdG⟩ := own_rdx (own_xs hown4 HA.out.1) HA.out.1
  have BW4 := BW2.trans (hb4.mono BW2.size)
  clear hown hgrow hown4 hg4 hb4 jh jz0 jz1 jz2 hA2
  go_wp2_with fail
  refine (vclip_len G n cg xs (.pointer none) none 0 most _ HM.out ha (by omega) rdG (Unt.nil _ _) (by omega) (by omega)).mono ?_
  rintro e w6 ⟨V6, cut, vs, mm, rfl, hl6, hO6, hG6, _⟩
  have hb6 := gr_none hG6
  obtain ⟨A6, c6, rfl, _⟩ := own_rdx hO6 hl6
  have wr6 := own_wr hO6 hl6
  have rdG6 := rdG.call hb6
  have BW6 := BW4.trans (hb6.mono BW4.size)
  clear hO6 hG6
  go_wp2_with fail
  refine (vscale_any G n cg xs (.pointer none) none 0 4294967296 _ (by unfold In64; omega) ha (by omega) rdG6 (Unt.nil _ _) (by omega) (by omega)).mono ?_
  rintro e w7 ⟨V7, rfl, hO7, hG7, _⟩
  have hb7 := gr_none hG7
  obtain ⟨A7, c7, rfl, _⟩ := own_rdx hO7 (rowI_length _ _)
  have wr7 := own_wr hO7 (rowI_length _ _)
  have wr67 := wr6.call hb7
  have BB7 : Below w4.heap.size w4 w7 := hb6.trans (hb7.mono hb6.size)
  have hs6 := hb6.size
  clear hO7 hG7 hb7 hb6 wr6 rdG6
  go_wp2_with fail
  go_loopw [60] (fun i wr => ∃ k : Nat, k ≤ n ∧ i = .int .i64 k ∧ Below w4.heap.size w4 wr ∧ Wr wr A6 n w4.heap.size w6.heap.size ∧ Wr wr A7 n w6.heap.size w7.heap.size) (fun i _ => n - (intOf i).toNat)
  case atStart => exact ⟨0, Nat.zero_le _, rfl, BB7, wr67, wr7⟩
  case round =>
    clear BB7 wr67 wr7
    obtain ⟨k, hk, rfl, hB, h6, h7⟩ := hrel
    by_cases hlt : k < n
    · have s6 := h6
      have s7 := h7
      obtain ⟨b1, cs1, T1, rfl, d1, d2, d3, d4⟩ := h6 (by omega)
      obtain ⟨b2, cs2, T2, rfl, f1, f2, f3, f4⟩ := h7 (by omega)
      have x1 := cell_of_row wr b1 k _ _ _ d3
      have x2 := cell_of_row wr b2 k _ _ _ f3
      rw [Array.getElem?_eq_getElem (by omega)] at x1 x2
      have y1 : ∀ i, wr.frozen? ⟨b1, i, none⟩ = false := fun i => by simp [World.frozen?, d3]
      have y2 : ∀ i, wr.frozen? ⟨b2, i, none⟩ = false := fun i => by simp [World.frozen?, f3]
      have z1 : ¬ b1 = b2 := by omega
      have z2 : ¬ b2 = b1 := by omega
      have ia : (0 : Int) ≤ (k : Int) := by omega
      have ib : (k : Int) < (n : Int) := by omega
      have l1 := lt_of_block d3
      have l2 := lt_of_block f3
      clear d3 f3
      go_wp2_with fail
      go_roundw
      case rel => exact ⟨k + 1, by omega, by simp, (hB.setCell d1 _).setCell (show w4.heap.size ≤ b2 by omega) _, (s6.set _ _ _).set _ _ _, (s7.set _ _ _).set _ _ _⟩
      case measure => simp [intOf]; omega
    · clear h6 h7
      have rdG8 := rdG.call hB
      have rdA8 := HA.out.call (BW4.trans (hB.mono BW4.size))
      have BW8 := BW4.trans (hB.mono BW4.size)
      go_wp2_with fail
      go_loopw [72] (fun i w9 => ∃ k : Nat, k ≤ n ∧ i = .int .i64 k ∧ w9 = wr) (fun i _ => n - (intOf i).toNat)
      case atStart => exact ⟨0, Nat.zero_le _, rfl, rfl⟩
      case round =>
        obtain ⟨j, hj, rfl, rfl⟩ := hrel
        by_cases hjl : j < n
        · obtain ⟨b1, o1, rfl, l1, _, d1⟩ := rdG8.2 (by omega)
          obtain ⟨b2, o2, rfl, l2, _, d2⟩ := rdA8.2 (by omega)
          have x1 := d1 j hjl
          have x2 := d2 j hjl
          have ia : (0 : Int) ≤ (j : Int) := by omega
          have ib : (j : Int) < (n : Int) := by omega
          clear d1 d2
          go_wp2_with fail
          go_roundw
          case rel => exact ⟨j + 1, by omega, by simp⟩
          case measure => simp [intOf]; omega
        · go_wp2_with fail
          go_ret
          exact ⟨rfl, BW8⟩
theorem vecAlone_walk (A : Option Addr) (n cp : Nat) (xs : List Int) (most : Int) (w : World) (i0 : Row64 w A n xs) (i1 : In64 most) :
    Calls Try.prog 10 #[.slice A n cp, .int .i64 most] w fun e w' => e = .returned (.bool true) ∧ Below w.heap.size w w' := by
  by_cases h : n ≤ 200
  · exact valone_main A n cp xs most w h i0.1 i0.2 i1
  · have AW := Lib.hid (fun W => awake4_any W)
    have T1 := Lib.hid (decide_eq_false h)
    clear h
    go_enter Try.func10, Try.ntmps10
    go_wp2_with (first
      | (go_at_call 13; refine (AW.out _).mono ?_; rintro e w1 ⟨rfl, hb1⟩; obtain ⟨hc1, hf1, hz1⟩ := bcell hb1; (try simp at hz1); (try have : w.heap.size < w1.heap.size := by omega); (try have : w.heap.size + 1 < w1.heap.size := by omega); (try have : w.heap.size + 1 + 1 < w1.heap.size := by omega); (try have : w.heap.size + 1 + 1 + 1 < w1.heap.size := by omega); (try have : g < w1.heap.size := by omega); (try have : ga < w1.heap.size := by omega); (try have : gb < w1.heap.size := by omega); (try have : gc < w1.heap.size := by omega); have hB : Below w.heap.size w w1 := (by repeat (first | (with_reducible exact Below.refl _ _) | (with_reducible assumption) | (with_reducible refine Below.drew ?_) | (with_reducible refine Below.alloc ?_ ?_ _) | (with_reducible refine Below.setCell ?_ ?_ _) | (with_reducible refine Below.trans ?_ (Below.mono hb ?_)) | (with_reducible refine Below.trans ?_ (Below.mono hb1 ?_)) | (with_reducible refine Below.trans ?_ (Below.mono hb2 ?_)) | (with_reducible refine Below.trans ?_ (Below.mono hb3 ?_)) | (with_reducible refine Below.trans ?_ (Below.mono hb4 ?_)) | (with_reducible refine Below.trans ?_ (Below.mono hb5 ?_)) | (with_reducible refine Below.trans ?_ (Below.mono hb6 ?_)) | (with_reducible refine Below.trans ?_ (Below.mono hb7 ?_)) | (with_reducible refine Below.trans ?_ (Below.mono hb8 ?_)) | (with_reducible refine Below.trans ?_ (Below.mono hb9 ?_)) | (focus (first | omega | (simp; done) | (simp; omega))) | exact hB)))
      | (go_at_call 14; refine (few4_one A n cp _ _ (by simp)).mono ?_; rw [T1.out]; rintro e w2 ⟨rfl, rfl⟩))
    go_ret
    exact ⟨rfl, (by repeat (first | (with_reducible exact Below.refl _ _) | (with_reducible assumption) | (with_reducible refine Below.drew ?_) | (with_reducible refine Below.alloc ?_ ?_ _) | (with_reducible refine Below.setCell ?_ ?_ _) | (with_reducible refine Below.trans ?_ (Below.mono hb ?_)) | (with_reducible refine Below.trans ?_ (Below.mono hb1 ?_)) | (with_reducible refine Below.trans ?_ (Below.mono hb2 ?_)) | (with_reducible refine Below.trans ?_ (Below.mono hb3 ?_)) | (with_reducible refine Below.trans ?_ (Below.mono hb4 ?_)) | (with_reducible refine Below.trans ?_ (Below.mono hb5 ?_)) | (with_reducible refine Below.trans ?_ (Below.mono hb6 ?_)) | (with_reducible refine Below.trans ?_ (Below.mono hb7 ?_)) | (with_reducible refine Below.trans ?_ (Below.mono hb8 ?_)) | (with_reducible refine Below.trans ?_ (Below.mono hb9 ?_)) | (focus (first | omega | (simp; done) | (simp; omega))) | exact hB))⟩
end Go.Proofs.Ytikjomekhnkgcaa
