import Derived.Test.YtfpeekdjdapcdaaC8
/- The law SchedBounds, walked. -/
namespace Go.Proofs.Ytfpeekdjdapcdaa
open Go.RowKit
attribute [local go_sem ↓] Go.wp_at_zero Go.wp_at_succ

def PSt (w wr : World) (l m f g : Int) : Prop := Below w.heap.size w wr ∧ wr.heap[w.heap.size]? = some (.cells #[.int .i64 l, .int .i64 m, .int .i64 f, .int .i64 g] 38 (0, 0))
theorem PSt.call {w wr w' : World} {l m f g : Int} (h : PSt w wr l m f g) (hb : Below wr.heap.size wr w') : PSt w w' l m f g := ⟨h.1.trans (hb.mono h.1.size), hp_call h.2 hb⟩
set_option maxHeartbeats 4000000 in
set_option maxRecDepth 100000 in
theorem sbounds_main (l m f g : Int) (A : Option Addr) (n cp : Nat) (ro hh mb sa : Nat → Int) (wa : Nat → Option Addr) (wl wc : Nat → Nat) (w : World) (hp : PaceOk l m f g) (hA : RdE w A n ro hh mb sa wa wl wc) (hx : EBd mb wl) (hn : n ≤ 60) (hcp : n ≤ cp) (hcm : cp ≤ 9223372036854775807) :
    Calls Try.prog 9 #[.agg #[.int .i64 l, .int .i64 m, .int .i64 f, .int .i64 g], .slice A n cp] w fun e w' => e = .returned (.bool true) ∧ Below w.heap.size w w' := by
  have AW := Lib.hid (fun W => awake8_any W)
  have CP := Lib.hid (fun W => checkpace_ok l m f g W hp)
  have S0 := Lib.hid (fun W => ssteps_any l m f g none 0 0 ro hh mb sa wa wl wc W hp (fun h => absurd h (by omega)) hx (by omega) (fun j hj => absurd hj (by omega)))
  rw [show stepsI l m g f (misI mb wl) 0 = f from rfl] at S0
  have HA := Lib.hid hA
  have HX := Lib.hid hx
  have HPO := Lib.hid hp
  clear hA hx hp
  go_enter Try.func9, Try.ntmps9
  go_wp2_with (first
  | (go_at_call 10; refine (AW.out _).mono ?_; rintro e w1 ⟨rfl, hb1⟩; obtain ⟨hc1, hf1, hz1⟩ := bcell hb1; (try simp at hz1); (try have : w.heap.size < w1.heap.size := by omega); (try have : w.heap.size + 1 < w1.heap.size := by omega); (try have : w.heap.size + 1 + 1 < w1.heap.size := by omega); (try have : w.heap.size + 1 + 1 + 1 < w1.heap.size := by omega); (try have : g < w1.heap.size := by omega); (try have : ga < w1.heap.size := by omega); (try have : gb < w1.heap.size := by omega); (try have : gc < w1.heap.size := by omega); have hB : Below w.heap.size w w1 := (by repeat (first | (with_reducible exact Below.refl _ _) | (with_reducible assumption) | (with_reducible refine Below.drew ?_) | (with_reducible refine Below.alloc ?_ ?_ _) | (with_reducible refine Below.setCell ?_ ?_ _) | (with_reducible refine Below.trans ?_ (Below.mono hb ?_)) | (with_reducible refine Below.trans ?_ (Below.mono hb1 ?_)) | (with_reducible refine Below.trans ?_ (Below.mono hb2 ?_)) | (with_reducible refine Below.trans ?_ (Below.mono hb3 ?_)) | (with_reducible refine Below.trans ?_ (Below.mono hb4 ?_)) | (with_reducible refine Below.trans ?_ (Below.mono hb5 ?_)) | (with_reducible refine Below.trans ?_ (Below.mono hb6 ?_)) | (with_reducible refine Below.trans ?_ (Below.mono hb7 ?_)) | (with_reducible refine Below.trans ?_ (Below.mono hb8 ?_)) | (with_reducible refine Below.trans ?_ (Below.mono hb9 ?_)) | (focus (first | omega | (simp; done) | (simp; omega))) | exact hB)))
  | (go_at_call 25; refine (CP.out _).mono ?_; rintro e w2 ⟨rfl, hb2⟩; obtain ⟨hc2, hf2, hz2⟩ := bcell hb2; (try simp at hz2); (try have : w.heap.size < w2.heap.size := by omega); (try have : w.heap.size + 1 < w2.heap.size := by omega); (try have : w.heap.size + 1 + 1 < w2.heap.size := by omega); (try have : w.heap.size + 1 + 1 + 1 < w2.heap.size := by omega); (try have : w1.heap.size < w2.heap.size := by omega); (try have : w1.heap.size + 1 < w2.heap.size := by omega); (try have : w1.heap.size + 1 + 1 < w2.heap.size := by omega); (try have : w1.heap.size + 1 + 1 + 1 < w2.heap.size := by omega); (try have : g < w2.heap.size := by omega); (try have : ga < w2.heap.size := by omega); (try have : gb < w2.heap.size := by omega); (try have : gc < w2.heap.size := by omega); have hB : Below w.heap.size w w2 := (by repeat (first | (with_reducible exact Below.refl _ _) | (with_reducible assumption) | (with_reducible refine Below.drew ?_) | (with_reducible refine Below.alloc ?_ ?_ _) | (with_reducible refine Below.setCell ?_ ?_ _) | (with_reducible refine Below.trans ?_ (Below.mono hb ?_)) | (with_reducible refine Below.trans ?_ (Below.mono hb1 ?_)) | (with_reducible refine Below.trans ?_ (Below.mono hb2 ?_)) | (with_reducible refine Below.trans ?_ (Below.mono hb3 ?_)) | (with_reducible refine Below.trans ?_ (Below.mono hb4 ?_)) | (with_reducible refine Below.trans ?_ (Below.mono hb5 ?_)) | (with_reducible refine Below.trans ?_ (Below.mono hb6 ?_)) | (with_reducible refine Below.trans ?_ (Below.mono hb7 ?_)) | (with_reducible refine Below.trans ?_ (Below.mono hb8 ?_)) | (with_reducible refine Below.trans ?_ (Below.mono hb9 ?_)) | (focus (first | omega | (simp; done) | (simp; omega))) | exact hB)))
  | (go_at_call 16; refine (S0.out _).mono ?_; rintro e w3 ⟨rfl, hb3⟩; obtain ⟨hc3, hf3, hz3⟩ := bcell hb3; (try simp at hz3); (try have : w.heap.size < w3.heap.size := by omega); (try have : w.heap.size + 1 < w3.heap.size := by omega); (try have : w.heap.size + 1 + 1 < w3.heap.size := by omega); (try have : w.heap.size + 1 + 1 + 1 < w3.heap.size := by omega); (try have : w1.heap.size < w3.heap.size := by omega); (try have : w1.heap.size + 1 < w3.heap.size := by omega); (try have : w1.heap.size + 1 + 1 < w3.heap.size := by omega); (try have : w1.heap.size + 1 + 1 + 1 < w3.heap.size := by omega); (try have : w2.heap.size < w3.heap.size := by omega); (try have : w2.heap.size + 1 < w3.heap.size := by omega); (try have : w2.heap.size + 1 + 1 < w3.heap.size := by omega); (try have : w2.heap.size + 1 + 1 + 1 < w3.heap.size := by omega); (try have : g < w3.heap.size := by omega); (try have : ga < w3.heap.size := by omega); (try have : gb < w3.heap.size := by omega); (try have : gc < w3.heap.size := by omega); have hB : Below w.heap.size w w3 := (by repeat (first | (with_reducible exact Below.refl _ _) | (with_reducible assumption) | (with_reducible refine Below.drew ?_) | (with_reducible refine Below.alloc ?_ ?_ _) | (with_reducible refine Below.setCell ?_ ?_ _) | (with_reducible refine Below.trans ?_ (Below.mono hb ?_)) | (with_reducible refine Below.trans ?_ (Below.mono hb1 ?_)) | (with_reducible refine Below.trans ?_ (Below.mono hb2 ?_)) | (with_reducible refine Below.trans ?_ (Below.mono hb3 ?_)) | (with_reducible refine Below.trans ?_ (Below.mono hb4 ?_)) | (with_reducible refine Below.trans ?_ (Below.mono hb5 ?_)) | (with_reducible refine Below.trans ?_ (Below.mono hb6 ?_)) | (with_reducible refine Below.trans ?_ (Below.mono hb7 ?_)) | (with_reducible refine Below.trans ?_ (Below.mono hb8 ?_)) | (with_reducible refine Below.trans ?_ (Below.mono hb9 ?_)) | (focus (first | omega | (simp; done) | (simp; omega))) | exact hB))))
  have bP : w3.heap[w.heap.size]? = some (.cells #[.int .i64 l, .int .i64 m, .int .i64 f, .int .i64 g] 38 (0, 0)) :=
    ((hb3.block _ (by omega)).trans ((hb2.block _ (by omega)).trans ((hb1.block _ (by simp)).trans (heap_alloc_new w _))))
  have HI : PSt w w3 l m f g := ⟨hB, bP⟩
  clear bP hb1 hb2 hb3 hc1 hc2 hc3 hf1 hf2 hf3 hB
  go_loopw [5, 38] (fun h i wr => ∃ k : Nat, k ≤ n ∧ i = .int .i64 k ∧ h = .int .i64 (stepsI l m g f (misI mb wl) k) ∧ EOk mb wl k ∧ PSt w wr l m f g) (fun _ i _ => n - (intOf i).toNat)
  case atStart => exact ⟨0, Nat.zero_le _, rfl, rfl, fun j hj => absurd hj (by omega), HI⟩
  case round =>
    clear HI
    obtain ⟨k, hk, rfl, rfl, hE, hS⟩ := hrel
    have hB := hS.1
    by_cases hlt : k < n
    · have hAw := HA.out.call hB
      obtain ⟨b, off, rfl, hb, hc⟩ := hAw (by omega)
      obtain ⟨e0, e1, e2, e3, e4⟩ := hc k hlt
      have ia : (0 : Int) ≤ (k : Int) := by omega
      have ib : (k : Int) < (n : Int) := by omega
      have i1 : IntKind.i64.wrap ((k : Int) + 1) = (k : Int) + 1 := IntWalk.i64_in _ (by omega)
      have i2 : (0 : Int) ≤ (k : Int) + 1 := by omega
      have i3 : (k : Int) + 1 ≤ (cp : Int) := by omega
      have i4 : ((k : Int) + 1).toNat = k + 1 := by omega
      have hxb := HX.out k
      unfold In64 at hxb
      have HS := Lib.hid hS
      have HE := Lib.hid hE
      have HAW := Lib.hid (hAw.less (show k + 1 ≤ n by omega))
      have p0 := cell_of_row wr w.heap.size 0 _ _ _ hS.2
      have p1 := cell_of_row wr w.heap.size 1 _ _ _ hS.2
      have p2 := cell_of_row wr w.heap.size 2 _ _ _ hS.2
      have p3 := cell_of_row wr w.heap.size 3 _ _ _ hS.2
      simp only [List.getElem?_toArray, List.getElem?_cons_zero, List.getElem?_cons_succ] at p0 p1 p2 p3
      have lP := lt_of_block hS.2
      have hsz := hB.size
      have hsb := stepsI_in HPO.out (misI mb wl) k
      have HK := Lib.hid (fun W => (fun hb : Below wr.heap.size wr W => HAW.out.call hb))
      clear hc hS hE hAw
      have SK : ∃ r x : Int, (∀ W, Below wr.heap.size wr W → Calls Try.prog 16 #[.agg #[.int .i64 l, .int .i64 m, .int .i64 f, .int .i64 g], .slice (some ⟨b, off, none⟩) (k + 1) cp] W fun e w' => e = .returned (.tuple #[.int .i64 x, .int .i64 r]) ∧ Below W.heap.size W w') ∧
          ((mb k < (wl k : Int) ∧ r = 2) ∨ ((wl k : Int) ≤ mb k ∧ r = 0 ∧ x = stepsI l m g f (misI mb wl) (k + 1) ∧ EOk mb wl (k + 1))) := by
        by_cases hmk : (wl k : Int) ≤ mb k
        · exact ⟨0, _, fun W h => ssteps_any l m f g _ (k + 1) cp ro hh mb sa wa wl wc W HPO.out (HK.out W h) HX.out (by omega) (HE.out.next hmk), .inr ⟨hmk, rfl, rfl, HE.out.next hmk⟩⟩
        · exact ⟨2, 0, fun W h => ssteps_arg l m f g _ (k + 1) cp ro hh mb sa wa wl wc W HPO.out (HK.out W h) HX.out (by omega) (fun h => hmk (h k (by omega))), .inl ⟨by omega, rfl⟩⟩
      obtain ⟨r, x, hSK, hr⟩ := SK
      have HSK := Lib.hid hSK
      have HR := Lib.hid hr
      clear hSK hr
      go_wp2_with fail
      refine at_world fun W0 hW0 => ?_
      have BWR : Below wr.heap.size wr W0 := by subst hW0; exact (by repeat (first | (with_reducible exact Below.refl _ _) | (with_reducible assumption) | (with_reducible refine Below.drew ?_) | (with_reducible refine Below.alloc ?_ ?_ _) | (with_reducible refine Below.setCell ?_ ?_ _) | (with_reducible refine Below.trans ?_ (Below.mono hb ?_)) | (with_reducible refine Below.trans ?_ (Below.mono hb1 ?_)) | (with_reducible refine Below.trans ?_ (Below.mono hb2 ?_)) | (with_reducible refine Below.trans ?_ (Below.mono hb3 ?_)) | (with_reducible refine Below.trans ?_ (Below.mono hb4 ?_)) | (with_reducible refine Below.trans ?_ (Below.mono hb5 ?_)) | (with_reducible refine Below.trans ?_ (Below.mono hb6 ?_)) | (with_reducible refine Below.trans ?_ (Below.mono hb7 ?_)) | (with_reducible refine Below.trans ?_ (Below.mono hb8 ?_)) | (with_reducible refine Below.trans ?_ (Below.mono hb9 ?_)) | (focus (first | omega | (simp; done) | (simp; omega))) | exact hB))
      have bE : W0.heap[wr.heap.size]? = some (.cells #[.int .i64 (ro k), .int .i64 (hh k), .int .i64 (mb k), .slice (wa k) (wl k) (wc k), .int .i64 (sa k)] 46 (0, 0)) := by subst hW0; exact heap_alloc_new wr _
      have HS0 := Lib.hid (HS.out.call BWR)
      have lE := lt_of_block bE
      have lP0 : w.heap.size < W0.heap.size := by omega
      have m2 := cell_of_row W0 wr.heap.size 2 _ _ _ bE
      have m3 := cell_of_row W0 wr.heap.size 3 _ _ _ bE
      have d0 := cell_of_row W0 w.heap.size 0 _ _ _ HS0.out.2
      have d1 := cell_of_row W0 w.heap.size 1 _ _ _ HS0.out.2
      have d2 := cell_of_row W0 w.heap.size 2 _ _ _ HS0.out.2
      have d3 := cell_of_row W0 w.heap.size 3 _ _ _ HS0.out.2
      simp only [List.getElem?_toArray, List.getElem?_cons_zero, List.getElem?_cons_succ] at m2 m3 d0 d1 d2 d3
      have g2 := pack_cell m2 lE
      have g3 := pack_cell m3 lE
      have q0 := pack_cell d0 lP0
      have q1 := pack_cell d1 lP0
      have q2 := pack_cell d2 lP0
      have q3 := pack_cell d3 lP0
      clear hW0 bE m2 m3 d0 d1 d2 d3 p0 p1 p2 p3 e0 e1 e2 e3 e4
      have HBW := Lib.hid BWR
      clear BWR
      refine wp_region_pack (by kernel_rfl) (by kernel_rfl) ?_
      repeat (first | go_big_quiet_skip | (go_big_quiet_want; go_big_quiet_op; first | go_big_quiet_on | (apply Exists.intro; refine ⟨fun npk => ?_, ?_⟩; (focus (first | (go_at_call 16; exact pack_call (HSK.out _ (HBW.out.trans (npk.ok.mono HBW.out.size)))))); go_big_quiet_on)))
      refine wpQuiet_nil ?_
      intro nq
      have HSQ := Lib.hid (HS0.out.call nq.ok)
      have lq : w.heap.size < nq.w.heap.size := by have := nq.ok.size; omega
      have hzq := nq.ok.size
      rcases HR.out with ⟨hmk, rfl⟩ | ⟨hmk, rfl, rfl, hE2⟩
      · have hB2 := HSQ.out.1
        go_wp2_with fail
        go_ret
        exact ⟨rfl, hB2⟩
      · have HE2 := Lib.hid hE2
        have hsub : (0 : Int) ≤ mb k - wl k := by omega
        have NX := Lib.hid (fun W => sNext_any l m f g (stepsI l m g f (misI mb wl) k) (mb k - wl k) W HPO.out hsb.1 hsb.2 hsub)
        rw [show nextI l m g (stepsI l m g f (misI mb wl) k) (mb k - wl k) = stepsI l m g f (misI mb wl) (k + 1) from rfl] at NX
        obtain ⟨hs0, hs1⟩ := stepsI_in HPO.out (misI mb wl) (k + 1)
        obtain ⟨s', hs'⟩ : ∃ s', s' = stepsI l m g f (misI mb wl) (k + 1) := ⟨_, rfl⟩
        rw [← hs'] at NX hs0 hs1 ⊢
        have HS' := Lib.hid hs'
        clear hs' hE2 hsb HSK
        generalize stepsI l m g f (misI mb wl) k = s at *
        go_wp2_with (go_at_call 24; refine (NX.out _).mono ?_; rintro e y1 ⟨rfl, hb7⟩; obtain ⟨hc7, hf7, hz7⟩ := bcell hb7; have ly : w.heap.size < y1.heap.size := by omega)
        go_roundw
        case rel => exact ⟨k + 1, by omega, by simp, by rw [HS'.out], HE2.out, HSQ.out.call hb7⟩
        case measure => simp [intOf]; omega
    · go_wp2_with fail
      go_ret
      exact ⟨rfl, hB⟩
theorem schedBounds_walk (l m f g : Int) (A : Option Addr) (n cp : Nat) (ro hh mb sa : Nat → Int) (wa : Nat → Option Addr) (wl wc : Nat → Nat) (w : World) (_i0 : In64 l ∧ In64 m ∧ In64 f ∧ In64 g) (i1 : (n ≤ cp ∧ cp ≤ 9223372036854775807) ∧ RdE w A n ro hh mb sa wa wl wc ∧ EBd mb wl) :
    Calls Try.prog 9 #[.agg #[.int .i64 l, .int .i64 m, .int .i64 f, .int .i64 g], .slice A n cp] w fun e w' => e = .returned (.bool true) ∧ Below w.heap.size w w' := by
  obtain ⟨⟨hcp, hcm⟩, hA, hx⟩ := i1
  have AW := Lib.hid (fun W => awake8_any W)
  by_cases h0 : 60 < n
  · go_enter Try.func9, Try.ntmps9
    go_wp2_with (go_at_call 10; refine (AW.out _).mono ?_; rintro e w1 ⟨rfl, hb1⟩; obtain ⟨hc1, hf1, hz1⟩ := bcell hb1; (try simp at hz1); (try have : w.heap.size < w1.heap.size := by omega); (try have : w.heap.size + 1 < w1.heap.size := by omega); (try have : w.heap.size + 1 + 1 < w1.heap.size := by omega); (try have : w.heap.size + 1 + 1 + 1 < w1.heap.size := by omega); (try have : g < w1.heap.size := by omega); (try have : ga < w1.heap.size := by omega); (try have : gb < w1.heap.size := by omega); (try have : gc < w1.heap.size := by omega); have hB : Below w.heap.size w w1 := (by repeat (first | (with_reducible exact Below.refl _ _) | (with_reducible assumption) | (with_reducible refine Below.drew ?_) | (with_reducible refine Below.alloc ?_ ?_ _) | (with_reducible refine Below.setCell ?_ ?_ _) | (with_reducible refine Below.trans ?_ (Below.mono hb ?_)) | (with_reducible refine Below.trans ?_ (Below.mono hb1 ?_)) | (with_reducible refine Below.trans ?_ (Below.mono hb2 ?_)) | (with_reducible refine Below.trans ?_ (Below.mono hb3 ?_)) | (with_reducible refine Below.trans ?_ (Below.mono hb4 ?_)) | (with_reducible refine Below.trans ?_ (Below.mono hb5 ?_)) | (with_reducible refine Below.trans ?_ (Below.mono hb6 ?_)) | (with_reducible refine Below.trans ?_ (Below.mono hb7 ?_)) | (with_reducible refine Below.trans ?_ (Below.mono hb8 ?_)) | (with_reducible refine Below.trans ?_ (Below.mono hb9 ?_)) | (focus (first | omega | (simp; done) | (simp; omega))) | exact hB)))
    go_ret
    exact ⟨rfl, (by repeat (first | (with_reducible exact Below.refl _ _) | (with_reducible assumption) | (with_reducible refine Below.drew ?_) | (with_reducible refine Below.alloc ?_ ?_ _) | (with_reducible refine Below.setCell ?_ ?_ _) | (with_reducible refine Below.trans ?_ (Below.mono hb ?_)) | (with_reducible refine Below.trans ?_ (Below.mono hb1 ?_)) | (with_reducible refine Below.trans ?_ (Below.mono hb2 ?_)) | (with_reducible refine Below.trans ?_ (Below.mono hb3 ?_)) | (with_reducible refine Below.trans ?_ (Below.mono hb4 ?_)) | (with_reducible refine Below.trans ?_ (Below.mono hb5 ?_)) | (with_reducible refine Below.trans ?_ (Below.mono hb6 ?_)) | (with_reducible refine Below.trans ?_ (Below.mono hb7 ?_)) | (with_reducible refine Below.trans ?_ (Below.mono hb8 ?_)) | (with_reducible refine Below.trans ?_ (Below.mono hb9 ?_)) | (focus (first | omega | (simp; done) | (simp; omega))) | exact hB))⟩
  · by_cases hp : PaceOk l m f g
    · exact sbounds_main l m f g A n cp ro hh mb sa wa wl wc w hp hA hx (by omega) hcp hcm
    · have CP := Lib.hid (fun W => checkpace_no l m f g W hp)
      clear hp hA
      go_enter Try.func9, Try.ntmps9
      go_wp2_with (first
        | (go_at_call 10; refine (AW.out _).mono ?_; rintro e w1 ⟨rfl, hb1⟩; obtain ⟨hc1, hf1, hz1⟩ := bcell hb1; (try simp at hz1); (try have : w.heap.size < w1.heap.size := by omega); (try have : w.heap.size + 1 < w1.heap.size := by omega); (try have : w.heap.size + 1 + 1 < w1.heap.size := by omega); (try have : w.heap.size + 1 + 1 + 1 < w1.heap.size := by omega); (try have : g < w1.heap.size := by omega); (try have : ga < w1.heap.size := by omega); (try have : gb < w1.heap.size := by omega); (try have : gc < w1.heap.size := by omega); have hB : Below w.heap.size w w1 := (by repeat (first | (with_reducible exact Below.refl _ _) | (with_reducible assumption) | (with_reducible refine Below.drew ?_) | (with_reducible refine Below.alloc ?_ ?_ _) | (with_reducible refine Below.setCell ?_ ?_ _) | (with_reducible refine Below.trans ?_ (Below.mono hb ?_)) | (with_reducible refine Below.trans ?_ (Below.mono hb1 ?_)) | (with_reducible refine Below.trans ?_ (Below.mono hb2 ?_)) | (with_reducible refine Below.trans ?_ (Below.mono hb3 ?_)) | (with_reducible refine Below.trans ?_ (Below.mono hb4 ?_)) | (with_reducible refine Below.trans ?_ (Below.mono hb5 ?_)) | (with_reducible refine Below.trans ?_ (Below.mono hb6 ?_)) | (with_reducible refine Below.trans ?_ (Below.mono hb7 ?_)) | (with_reducible refine Below.trans ?_ (Below.mono hb8 ?_)) | (with_reducible refine Below.trans ?_ (Below.mono hb9 ?_)) | (focus (first | omega | (simp; done) | (simp; omega))) | exact hB)))
        | (go_at_call 25; refine (CP.out _).mono ?_; rintro e w2 ⟨rfl, hb2⟩; obtain ⟨hc2, hf2, hz2⟩ := bcell hb2; (try simp at hz2); (try have : w.heap.size < w2.heap.size := by omega); (try have : w.heap.size + 1 < w2.heap.size := by omega); (try have : w.heap.size + 1 + 1 < w2.heap.size := by omega); (try have : w.heap.size + 1 + 1 + 1 < w2.heap.size := by omega); (try have : w1.heap.size < w2.heap.size := by omega); (try have : w1.heap.size + 1 < w2.heap.size := by omega); (try have : w1.heap.size + 1 + 1 < w2.heap.size := by omega); (try have : w1.heap.size + 1 + 1 + 1 < w2.heap.size := by omega); (try have : g < w2.heap.size := by omega); (try have : ga < w2.heap.size := by omega); (try have : gb < w2.heap.size := by omega); (try have : gc < w2.heap.size := by omega); have hB : Below w.heap.size w w2 := (by repeat (first | (with_reducible exact Below.refl _ _) | (with_reducible assumption) | (with_reducible refine Below.drew ?_) | (with_reducible refine Below.alloc ?_ ?_ _) | (with_reducible refine Below.setCell ?_ ?_ _) | (with_reducible refine Below.trans ?_ (Below.mono hb ?_)) | (with_reducible refine Below.trans ?_ (Below.mono hb1 ?_)) | (with_reducible refine Below.trans ?_ (Below.mono hb2 ?_)) | (with_reducible refine Below.trans ?_ (Below.mono hb3 ?_)) | (with_reducible refine Below.trans ?_ (Below.mono hb4 ?_)) | (with_reducible refine Below.trans ?_ (Below.mono hb5 ?_)) | (with_reducible refine Below.trans ?_ (Below.mono hb6 ?_)) | (with_reducible refine Below.trans ?_ (Below.mono hb7 ?_)) | (with_reducible refine Below.trans ?_ (Below.mono hb8 ?_)) | (with_reducible refine Below.trans ?_ (Below.mono hb9 ?_)) | (focus (first | omega | (simp; done) | (simp; omega))) | exact hB))))
      go_ret
      exact ⟨rfl, (by repeat (first | (with_reducible exact Below.refl _ _) | (with_reducible assumption) | (with_reducible refine Below.drew ?_) | (with_reducible refine Below.alloc ?_ ?_ _) | (with_reducible refine Below.setCell ?_ ?_ _) | (with_reducible refine Below.trans ?_ (Below.mono hb ?_)) | (with_reducible refine Below.trans ?_ (Below.mono hb1 ?_)) | (with_reducible refine Below.trans ?_ (Below.mono hb2 ?_)) | (with_reducible refine Below.trans ?_ (Below.mono hb3 ?_)) | (with_reducible refine Below.trans ?_ (Below.mono hb4 ?_)) | (with_reducible refine Below.trans ?_ (Below.mono hb5 ?_)) | (with_reducible refine Below.trans ?_ (Below.mono hb6 ?_)) | (with_reducible refine Below.trans ?_ (Below.mono hb7 ?_)) | (with_reducible refine Below.trans ?_ (Below.mono hb8 ?_)) | (with_reducible refine Below.trans ?_ (Below.mono hb9 ?_)) | (focus (first | omega | (simp; done) | (simp; omega))) | exact hB))⟩
end Go.Proofs.Ytfpeekdjdapcdaa
