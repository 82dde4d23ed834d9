import Derived.Test.YtfpeekdjdapcdaaC3
/- The code's inner steps behind entries. -/
namespace Go.Proofs.Ytfpeekdjdapcdaa
open Go.RowKit
attribute [local go_sem ↓] Go.wp_at_zero Go.wp_at_succ

def EOk (mb : Nat → Int) (wl : Nat → Nat) (k : Nat) : Prop := ∀ j, j < k → (wl j : Int) ≤ mb j
def misI (mb : Nat → Int) (wl : Nat → Nat) (j : Nat) : Int := mb j - wl j
theorem EOk.next {mb : Nat → Int} {wl : Nat → Nat} {k : Nat} (h : EOk mb wl k) (hk : (wl k : Int) ≤ mb k) : EOk mb wl (k + 1) := fun j hj => by
  rcases Nat.lt_or_ge j k with h1 | h1
  · exact h j h1
  · obtain rfl : j = k := by omega
    exact hk
theorem EOk.not {mb : Nat → Int} {wl : Nat → Nat} {n : Nat} (h : ¬ EOk mb wl n) : ∃ j, j < n ∧ EOk mb wl j ∧ mb j < (wl j : Int) := by
  induction n with
  | zero => exact absurd (fun j hj => absurd hj (by omega)) h
  | succ i ih =>
    by_cases h1 : EOk mb wl i
    · by_cases h2 : (wl i : Int) ≤ mb i
      · exact absurd (h1.next h2) h
      · exact ⟨i, by omega, h1, by omega⟩
    · obtain ⟨j, a, b, c⟩ := ih h1
      exact ⟨j, by omega, b, c⟩
theorem stepsI_succ (l m g f : Int) (mis : Nat → Int) (k : Nat) : stepsI l m g f mis (k + 1) = nextI l m g (stepsI l m g f mis k) (mis k) := rfl
theorem stepsI_congr {l m g f : Int} {mis mis' : Nat → Int} {k : Nat} (h : ∀ j, j < k → mis j = mis' j) : stepsI l m g f mis k = stepsI l m g f mis' k := by
  induction k with
  | zero => rfl
  | succ i ih => rw [stepsI_succ, stepsI_succ, ih (fun j hj => h j (by omega)), h i (by omega)]
/-- What stands behind k entries. -/
def SSt (w wr : World) (P H : Nat) (l m f g h : Int) : Prop :=
  wr.heap[P]? = some (.cells #[.int .i64 l, .int .i64 m, .int .i64 f, .int .i64 g] 38 (0, 0)) ∧ wr.heap[H]? = some (.cells #[.int .i64 h] 3 (0, 0)) ∧ Below w.heap.size w wr ∧ w.heap.size ≤ H ∧ P ≠ H
theorem SSt.next {w wr w2 : World} {P H : Nat} {l m f g h h' : Int} {o : Obj} (hs : SSt w wr P H l m f g h) (hg : (wr.alloc o).grownBy w2 (some H)) (hb : w2.heap[H]? = some (.cells #[.int .i64 h'] 3 (0, 0))) : SSt w w2 P H l m f g h' := by
  obtain ⟨a, b, c, d, e⟩ := hs
  exact ⟨hp_grown (hp_alloc a _) hg (by simp; exact e), hb, (c.alloc c.size _).trans (gr_new hg (by have := c.size; simp; omega) d), d, e⟩
set_option maxHeartbeats 2000000 in
theorem ssteps_any (l m f g : Int) (A : Option Addr) (n cp : Nat) (ro hh mb sa : Nat → Int) (wa : Nat → Option Addr) (wl wc : Nat → Nat) (w : World) (hp : PaceOk l m f g) (hA : RdE w A n ro hh mb sa wa wl wc) (hx : EBd mb wl) (hn : n ≤ 256) (hE : EOk mb wl n) :
    Calls Try.prog 16 #[.agg #[.int .i64 l, .int .i64 m, .int .i64 f, .int .i64 g], .slice A n cp] w fun e w' => e = .returned (.tuple #[.int .i64 (stepsI l m g f (misI mb wl) n), .int .i64 0]) ∧ Below w.heap.size w w' := by
  have HE := Lib.hid hE
  clear hE
  have hmf : ∀ (fn : Fn) (first cap : Array Value) (w : World), (Instr.makeFunc fn first cap).run Try.prog w = .ok (.func fn first cap) w := fun _ _ _ _ => rfl
  have CP := Lib.hid (fun W => checkpace_ok l m f g W hp)
  have HA := Lib.hid hA
  have HX := Lib.hid hx
  have HPO := Lib.hid hp
  clear hA hx hp
  go_enter Try.func16, Try.ntmps16
  go_wp2_with (go_at_call 25; refine (CP.out _).mono ?_; rintro e w1 ⟨rfl, hb1⟩; obtain ⟨hc1, hf1, hz1⟩ := bcell hb1; (try simp at hz1); (try have : w.heap.size < w1.heap.size := by omega); (try have : w.heap.size + 1 < w1.heap.size := by omega); (try have : w.heap.size + 1 + 1 < w1.heap.size := by omega); (try have : w.heap.size + 1 + 1 + 1 < w1.heap.size := by omega); (try have : g < w1.heap.size := by omega); (try have : ga < w1.heap.size := by omega); (try have : gb < w1.heap.size := by omega); (try have : gc < w1.heap.size := by omega); have hB : Below w.heap.size w w1 := (by repeat (first | (with_reducible exact Below.refl _ _) | (with_reducible assumption) | (with_reducible refine Below.drew ?_) | (with_reducible refine Below.alloc ?_ ?_ _) | (with_reducible refine Below.setCell ?_ ?_ _) | (with_reducible refine Below.trans ?_ (Below.mono hb ?_)) | (with_reducible refine Below.trans ?_ (Below.mono hb1 ?_)) | (with_reducible refine Below.trans ?_ (Below.mono hb2 ?_)) | (with_reducible refine Below.trans ?_ (Below.mono hb3 ?_)) | (with_reducible refine Below.trans ?_ (Below.mono hb4 ?_)) | (with_reducible refine Below.trans ?_ (Below.mono hb5 ?_)) | (with_reducible refine Below.trans ?_ (Below.mono hb6 ?_)) | (with_reducible refine Below.trans ?_ (Below.mono hb7 ?_)) | (with_reducible refine Below.trans ?_ (Below.mono hb8 ?_)) | (with_reducible refine Below.trans ?_ (Below.mono hb9 ?_)) | (focus (first | omega | (simp; done) | (simp; omega))) | exact hB)))
  refine at_world fun W1 hW1 => ?_
  have bP : W1.heap[w.heap.size]? = some (.cells #[.int .i64 l, .int .i64 m, .int .i64 f, .int .i64 g] 38 (0, 0)) := by subst hW1; exact hp_alloc ((hb1.block _ (by simp)).trans (heap_alloc_new w _)) _
  have bH : W1.heap[w1.heap.size]? = some (.cells #[.int .i64 f] 3 (0, 0)) := by subst hW1; exact heap_alloc_new w1 _
  have BW : Below w.heap.size w W1 := by subst hW1; exact (by repeat (first | (with_reducible exact Below.refl _ _) | (with_reducible assumption) | (with_reducible refine Below.drew ?_) | (with_reducible refine Below.alloc ?_ ?_ _) | (with_reducible refine Below.setCell ?_ ?_ _) | (with_reducible refine Below.trans ?_ (Below.mono hb ?_)) | (with_reducible refine Below.trans ?_ (Below.mono hb1 ?_)) | (with_reducible refine Below.trans ?_ (Below.mono hb2 ?_)) | (with_reducible refine Below.trans ?_ (Below.mono hb3 ?_)) | (with_reducible refine Below.trans ?_ (Below.mono hb4 ?_)) | (with_reducible refine Below.trans ?_ (Below.mono hb5 ?_)) | (with_reducible refine Below.trans ?_ (Below.mono hb6 ?_)) | (with_reducible refine Below.trans ?_ (Below.mono hb7 ?_)) | (with_reducible refine Below.trans ?_ (Below.mono hb8 ?_)) | (with_reducible refine Below.trans ?_ (Below.mono hb9 ?_)) | (focus (first | omega | (simp; done) | (simp; omega))) | exact hB))
  have HI : SSt w W1 w.heap.size w1.heap.size l m f g (stepsI l m g f (misI mb wl) 0) := ⟨bP, bH, BW, by omega, by omega⟩
  clear hW1 bP bH BW hc1 hf1 hb1 hB CP
  generalize w1.heap.size = H at *
  go_loopw [24] (fun i wr => ∃ k : Nat, k ≤ n ∧ i = .int .i64 k ∧ SSt w wr w.heap.size H l m f g (stepsI l m g f (misI mb wl) k)) (fun i _ => n - (intOf i).toNat)
  case atStart => exact ⟨0, Nat.zero_le _, rfl, HI⟩
  case round =>
    clear HI
    obtain ⟨k, hk, rfl, hS⟩ := hrel
    by_cases hlt : k < n
    · obtain ⟨b, off, rfl, hb, hc⟩ := (HA.out.call hS.2.2.1) (by omega)
      obtain ⟨e0, e1, e2, e3, e4⟩ := hc k hlt
      have ia : (0 : Int) ≤ (k : Int) := by omega
      have ib : (k : Int) < (n : Int) := by omega
      have hmb := HE.out k hlt
      have hsb := stepsI_in HPO.out (misI mb wl) k
      have hne := hS.2.2.2.2
      have HS := Lib.hid hS
      have hsc : stepsI l m g f (misI mb wl) (k + 1) = nextI l m g (stepsI l m g f (misI mb wl) k) (mb k - wl k) := rfl
      have ST := Lib.hid (fun W b1 b2 => step8_yes (ro k) (hh k) (mb k) (sa k) (wa k) (wl k) (wc k) w.heap.size H l m f g (stepsI l m g f (misI mb wl) k) W HPO.out hsb.1 hsb.2 hmb (HX.out k).1 b1 b2)
      rw [← hsc] at ST
      clear hc hS hsb hsc
      obtain ⟨s', hs'⟩ : ∃ s', s' = stepsI l m g f (misI mb wl) (k + 1) := ⟨_, rfl⟩
      rw [← hs'] at ST
      have HS' := Lib.hid hs'
      clear hs'
      generalize stepsI l m g f (misI mb wl) k = s at *
      go_wp2_with (go_at_call 31; refine (ST.out _ (hp_alloc HS.out.1 _) (hp_alloc HS.out.2.1 _)).mono ?_; rintro e w2 ⟨rfl, hg2, hb2⟩)
      go_roundw
      case rel => exact ⟨k + 1, by omega, by simp, by rw [← HS'.out]; exact HS.out.next hg2 hb2⟩
      case measure => simp [intOf]; omega
    · obtain rfl : k = n := by omega
      have hB := hS.2.2.1
      have c0 := cell_of_one hS.2.1
      clear hS
      go_wp2_with fail
      go_ret2
      exact ⟨rfl, hB⟩
set_option maxHeartbeats 2000000 in
theorem ssteps_arg (l m f g : Int) (A : Option Addr) (n cp : Nat) (ro hh mb sa : Nat → Int) (wa : Nat → Option Addr) (wl wc : Nat → Nat) (w : World) (hp : PaceOk l m f g) (hA : RdE w A n ro hh mb sa wa wl wc) (hx : EBd mb wl) (hn : n ≤ 256) (hE : ¬ EOk mb wl n) :
    Calls Try.prog 16 #[.agg #[.int .i64 l, .int .i64 m, .int .i64 f, .int .i64 g], .slice A n cp] w fun e w' => e = .returned (.tuple #[.int .i64 0, .int .i64 2]) ∧ Below w.heap.size w w' := by
  obtain ⟨q, hq, hE, hbad⟩ := EOk.not hE
  have HE := Lib.hid hE
  have HB := Lib.hid hbad
  clear hE hbad
  have hmf : ∀ (fn : Fn) (first cap : Array Value) (w : World), (Instr.makeFunc fn first cap).run Try.prog w = .ok (.func fn first cap) w := fun _ _ _ _ => rfl
  have CP := Lib.hid (fun W => checkpace_ok l m f g W hp)
  have HA := Lib.hid hA
  have HX := Lib.hid hx
  have HPO := Lib.hid hp
  clear hA hx hp
  go_enter Try.func16, Try.ntmps16
  go_wp2_with (go_at_call 25; refine (CP.out _).mono ?_; rintro e w1 ⟨rfl, hb1⟩; obtain ⟨hc1, hf1, hz1⟩ := bcell hb1; (try simp at hz1); (try have : w.heap.size < w1.heap.size := by omega); (try have : w.heap.size + 1 < w1.heap.size := by omega); (try have : w.heap.size + 1 + 1 < w1.heap.size := by omega); (try have : w.heap.size + 1 + 1 + 1 < w1.heap.size := by omega); (try have : g < w1.heap.size := by omega); (try have : ga < w1.heap.size := by omega); (try have : gb < w1.heap.size := by omega); (try have : gc < w1.heap.size := by omega); have hB : Below w.heap.size w w1 := (by repeat (first | (with_reducible exact Below.refl _ _) | (with_reducible assumption) | (with_reducible refine Below.drew ?_) | (with_reducible refine Below.alloc ?_ ?_ _) | (with_reducible refine Below.setCell ?_ ?_ _) | (with_reducible refine Below.trans ?_ (Below.mono hb ?_)) | (with_reducible refine Below.trans ?_ (Below.mono hb1 ?_)) | (with_reducible refine Below.trans ?_ (Below.mono hb2 ?_)) | (with_reducible refine Below.trans ?_ (Below.mono hb3 ?_)) | (with_reducible refine Below.trans ?_ (Below.mono hb4 ?_)) | (with_reducible refine Below.trans ?_ (Below.mono hb5 ?_)) | (with_reducible refine Below.trans ?_ (Below.mono hb6 ?_)) | (with_reducible refine Below.trans ?_ (Below.mono hb7 ?_)) | (with_reducible refine Below.trans ?_ (Below.mono hb8 ?_)) | (with_reducible refine Below.trans ?_ (Below.mono hb9 ?_)) | (focus (first | omega | (simp; done) | (simp; omega))) | exact hB)))
  refine at_world fun W1 hW1 => ?_
  have bP : W1.heap[w.heap.size]? = some (.cells #[.int .i64 l, .int .i64 m, .int .i64 f, .int .i64 g] 38 (0, 0)) := by subst hW1; exact hp_alloc ((hb1.block _ (by simp)).trans (heap_alloc_new w _)) _
  have bH : W1.heap[w1.heap.size]? = some (.cells #[.int .i64 f] 3 (0, 0)) := by subst hW1; exact heap_alloc_new w1 _
  have BW : Below w.heap.size w W1 := by subst hW1; exact (by repeat (first | (with_reducible exact Below.refl _ _) | (with_reducible assumption) | (with_reducible refine Below.drew ?_) | (with_reducible refine Below.alloc ?_ ?_ _) | (with_reducible refine Below.setCell ?_ ?_ _) | (with_reducible refine Below.trans ?_ (Below.mono hb ?_)) | (with_reducible refine Below.trans ?_ (Below.mono hb1 ?_)) | (with_reducible refine Below.trans ?_ (Below.mono hb2 ?_)) | (with_reducible refine Below.trans ?_ (Below.mono hb3 ?_)) | (with_reducible refine Below.trans ?_ (Below.mono hb4 ?_)) | (with_reducible refine Below.trans ?_ (Below.mono hb5 ?_)) | (with_reducible refine Below.trans ?_ (Below.mono hb6 ?_)) | (with_reducible refine Below.trans ?_ (Below.mono hb7 ?_)) | (with_reducible refine Below.trans ?_ (Below.mono hb8 ?_)) | (with_reducible refine Below.trans ?_ (Below.mono hb9 ?_)) | (focus (first | omega | (simp; done) | (simp; omega))) | exact hB))
  have HI : SSt w W1 w.heap.size w1.heap.size l m f g (stepsI l m g f (misI mb wl) 0) := ⟨bP, bH, BW, by omega, by omega⟩
  clear hW1 bP bH BW hc1 hf1 hb1 hB CP
  generalize w1.heap.size = H at *
  go_loopw [24] (fun i wr => ∃ k : Nat, k ≤ q ∧ i = .int .i64 k ∧ SSt w wr w.heap.size H l m f g (stepsI l m g f (misI mb wl) k)) (fun i _ => n - (intOf i).toNat)
  case atStart => exact ⟨0, Nat.zero_le _, rfl, HI⟩
  case round =>
    clear HI
    obtain ⟨k, hk, rfl, hS⟩ := hrel
    obtain ⟨b, off, rfl, hb, hc⟩ := (HA.out.call hS.2.2.1) (by omega)
    have hkn : k < n := by omega
    obtain ⟨e0, e1, e2, e3, e4⟩ := hc k hkn
    have ia : (0 : Int) ≤ (k : Int) := by omega
    have ib : (k : Int) < (n : Int) := by omega
    have hB := hS.2.2.1
    have HS := Lib.hid hS
    by_cases hlt : k < q
    · have hmb := HE.out k hlt
      have hsb := stepsI_in HPO.out (misI mb wl) k
      have hsc : stepsI l m g f (misI mb wl) (k + 1) = nextI l m g (stepsI l m g f (misI mb wl) k) (mb k - wl k) := rfl
      have ST := Lib.hid (fun W b1 b2 => step8_yes (ro k) (hh k) (mb k) (sa k) (wa k) (wl k) (wc k) w.heap.size H l m f g (stepsI l m g f (misI mb wl) k) W HPO.out hsb.1 hsb.2 hmb (HX.out k).1 b1 b2)
      rw [← hsc] at ST
      clear hc hS hsb hsc
      obtain ⟨s', hs'⟩ : ∃ s', s' = stepsI l m g f (misI mb wl) (k + 1) := ⟨_, rfl⟩
      rw [← hs'] at ST
      have HS' := Lib.hid hs'
      clear hs'
      generalize stepsI l m g f (misI mb wl) k = s at *
      go_wp2_with (go_at_call 31; refine (ST.out _ (hp_alloc HS.out.1 _) (hp_alloc HS.out.2.1 _)).mono ?_; rintro e w2 ⟨rfl, hg2, hb2⟩)
      go_roundw
      case rel => exact ⟨k + 1, by omega, by simp, by rw [← HS'.out]; exact HS.out.next hg2 hb2⟩
      case measure => simp [intOf]; omega
    · obtain rfl : k = q := by omega
      have ST := Lib.hid (fun W => step8_no (ro k) (hh k) (mb k) (sa k) (wa k) (wl k) (wc k) w.heap.size H W HB.out)
      clear hc hS
      generalize stepsI l m g f (misI mb wl) k = s at *
      go_wp2_with (go_at_call 31; refine (ST.out _).mono ?_; rintro e wk ⟨rfl, hb⟩; (try (have hs := sb_below (by assumption) hb; have hzs := Below.size hs)); (try (first | have q1 := Bt.call q1 hb | have q1 := Bt.call (Bt.drew q1) hb)); (try (first | have q2 := Bt.call q2 hb | have q2 := Bt.call (Bt.drew q2) hb)); (try (first | have q3 := Bt.call q3 hb | have q3 := Bt.call (Bt.drew q3) hb)); (try (first | have q4 := Bt.call q4 hb | have q4 := Bt.call (Bt.drew q4) hb)); (try (first | have q5 := Bt.call q5 hb | have q5 := Bt.call (Bt.drew q5) hb)); (try (first | have q6 := Bt.call q6 hb | have q6 := Bt.call (Bt.drew q6) hb)); (try (first | have q7 := Bt.call q7 hb | have q7 := Bt.call (Bt.drew q7) hb)); (try (first | have q8 := Bt.call q8 hb | have q8 := Bt.call (Bt.drew q8) hb)); (try (first | have q9 := Bt.call q9 hb | have q9 := Bt.call (Bt.drew q9) hb)); (try (first | (have x1 := Cl.call x1 hb; have d1 := x1.2) | (have x1 := Cl.call (Cl.drew x1) hb; have d1 := x1.2))); (try (first | (have x2 := Cl.call x2 hb; have d2 := x2.2) | (have x2 := Cl.call (Cl.drew x2) hb; have d2 := x2.2))); (try (first | (have x3 := Cl.call x3 hb; have d3 := x3.2) | (have x3 := Cl.call (Cl.drew x3) hb; have d3 := x3.2))); (try (first | (have x4 := Cl.call x4 hb; have d4 := x4.2) | (have x4 := Cl.call (Cl.drew x4) hb; have d4 := x4.2))); (try (first | (have x5 := Cl.call x5 hb; have d5 := x5.2) | (have x5 := Cl.call (Cl.drew x5) hb; have d5 := x5.2))); (try (first | (have x6 := Cl.call x6 hb; have d6 := x6.2) | (have x6 := Cl.call (Cl.drew x6) hb; have d6 := x6.2))); (try (first | have hB := Below.trans hB (Below.mono hb (by have := hB.size; first | omega | (simp; done) | (simp; omega))) | have hB := Below.trans (Below.drew hB) (Below.mono hb (by have := hB.size; first | omega | (simp; done) | (simp; omega))))); (try have hz := Below.size hB))
      go_ret2
      exact ⟨rfl, (by repeat (first | (with_reducible exact Below.refl _ _) | (with_reducible assumption) | (with_reducible refine Below.drew ?_) | (with_reducible refine Below.alloc ?_ ?_ _) | (with_reducible refine Below.setCell ?_ ?_ _) | (with_reducible refine Below.trans ?_ (Below.mono hb ?_)) | (with_reducible refine Below.trans ?_ (Below.mono hb1 ?_)) | (with_reducible refine Below.trans ?_ (Below.mono hb2 ?_)) | (with_reducible refine Below.trans ?_ (Below.mono hb3 ?_)) | (with_reducible refine Below.trans ?_ (Below.mono hb4 ?_)) | (with_reducible refine Below.trans ?_ (Below.mono hb5 ?_)) | (with_reducible refine Below.trans ?_ (Below.mono hb6 ?_)) | (with_reducible refine Below.trans ?_ (Below.mono hb7 ?_)) | (with_reducible refine Below.trans ?_ (Below.mono hb8 ?_)) | (with_reducible refine Below.trans ?_ (Below.mono hb9 ?_)) | (focus (first | omega | (simp; done) | (simp; omega))) | exact hB))⟩
theorem ssteps_rule (l m f g : Int) (A : Option Addr) (n cp : Nat) (w : World) (hp : ¬ PaceOk l m f g) :
    Calls Try.prog 16 #[.agg #[.int .i64 l, .int .i64 m, .int .i64 f, .int .i64 g], .slice A n cp] w fun e w' => e = .returned (.tuple #[.int .i64 0, .int .i64 80]) ∧ Below w.heap.size w w' := by
  have CP := Lib.hid (fun W => checkpace_no l m f g W hp)
  clear hp
  go_enter Try.func16, Try.ntmps16
  go_wp2_with (go_at_call 25; refine (CP.out _).mono ?_; rintro e w1 ⟨rfl, hb1⟩; obtain ⟨hc1, hf1, hz1⟩ := bcell hb1; (try simp at hz1); (try have : w.heap.size < w1.heap.size := by omega); (try have : w.heap.size + 1 < w1.heap.size := by omega); (try have : w.heap.size + 1 + 1 < w1.heap.size := by omega); (try have : w.heap.size + 1 + 1 + 1 < w1.heap.size := by omega); (try have : g < w1.heap.size := by omega); (try have : ga < w1.heap.size := by omega); (try have : gb < w1.heap.size := by omega); (try have : gc < w1.heap.size := by omega); have hB : Below w.heap.size w w1 := (by repeat (first | (with_reducible exact Below.refl _ _) | (with_reducible assumption) | (with_reducible refine Below.drew ?_) | (with_reducible refine Below.alloc ?_ ?_ _) | (with_reducible refine Below.setCell ?_ ?_ _) | (with_reducible refine Below.trans ?_ (Below.mono hb ?_)) | (with_reducible refine Below.trans ?_ (Below.mono hb1 ?_)) | (with_reducible refine Below.trans ?_ (Below.mono hb2 ?_)) | (with_reducible refine Below.trans ?_ (Below.mono hb3 ?_)) | (with_reducible refine Below.trans ?_ (Below.mono hb4 ?_)) | (with_reducible refine Below.trans ?_ (Below.mono hb5 ?_)) | (with_reducible refine Below.trans ?_ (Below.mono hb6 ?_)) | (with_reducible refine Below.trans ?_ (Below.mono hb7 ?_)) | (with_reducible refine Below.trans ?_ (Below.mono hb8 ?_)) | (with_reducible refine Below.trans ?_ (Below.mono hb9 ?_)) | (focus (first | omega | (simp; done) | (simp; omega))) | exact hB)))
  go_ret2
  exact ⟨rfl, (by repeat (first | (with_reducible exact Below.refl _ _) | (with_reducible assumption) | (with_reducible refine Below.drew ?_) | (with_reducible refine Below.alloc ?_ ?_ _) | (with_reducible refine Below.setCell ?_ ?_ _) | (with_reducible refine Below.trans ?_ (Below.mono hb ?_)) | (with_reducible refine Below.trans ?_ (Below.mono hb1 ?_)) | (with_reducible refine Below.trans ?_ (Below.mono hb2 ?_)) | (with_reducible refine Below.trans ?_ (Below.mono hb3 ?_)) | (with_reducible refine Below.trans ?_ (Below.mono hb4 ?_)) | (with_reducible refine Below.trans ?_ (Below.mono hb5 ?_)) | (with_reducible refine Below.trans ?_ (Below.mono hb6 ?_)) | (with_reducible refine Below.trans ?_ (Below.mono hb7 ?_)) | (with_reducible refine Below.trans ?_ (Below.mono hb8 ?_)) | (with_reducible refine Below.trans ?_ (Below.mono hb9 ?_)) | (focus (first | omega | (simp; done) | (simp; omega))) | exact hB))⟩
theorem ssteps_big (l m f g : Int) (A : Option Addr) (n cp : Nat) (w : World) (hp : PaceOk l m f g) (hn : 256 < n) :
    Calls Try.prog 16 #[.agg #[.int .i64 l, .int .i64 m, .int .i64 f, .int .i64 g], .slice A n cp] w fun e w' => e = .returned (.tuple #[.int .i64 0, .int .i64 3]) ∧ Below w.heap.size w w' := by
  have CP := Lib.hid (fun W => checkpace_ok l m f g W hp)
  clear hp
  go_enter Try.func16, Try.ntmps16
  go_wp2_with (go_at_call 25; refine (CP.out _).mono ?_; rintro e w1 ⟨rfl, hb1⟩; obtain ⟨hc1, hf1, hz1⟩ := bcell hb1; (try simp at hz1); (try have : w.heap.size < w1.heap.size := by omega); (try have : w.heap.size + 1 < w1.heap.size := by omega); (try have : w.heap.size + 1 + 1 < w1.heap.size := by omega); (try have : w.heap.size + 1 + 1 + 1 < w1.heap.size := by omega); (try have : g < w1.heap.size := by omega); (try have : ga < w1.heap.size := by omega); (try have : gb < w1.heap.size := by omega); (try have : gc < w1.heap.size := by omega); have hB : Below w.heap.size w w1 := (by repeat (first | (with_reducible exact Below.refl _ _) | (with_reducible assumption) | (with_reducible refine Below.drew ?_) | (with_reducible refine Below.alloc ?_ ?_ _) | (with_reducible refine Below.setCell ?_ ?_ _) | (with_reducible refine Below.trans ?_ (Below.mono hb ?_)) | (with_reducible refine Below.trans ?_ (Below.mono hb1 ?_)) | (with_reducible refine Below.trans ?_ (Below.mono hb2 ?_)) | (with_reducible refine Below.trans ?_ (Below.mono hb3 ?_)) | (with_reducible refine Below.trans ?_ (Below.mono hb4 ?_)) | (with_reducible refine Below.trans ?_ (Below.mono hb5 ?_)) | (with_reducible refine Below.trans ?_ (Below.mono hb6 ?_)) | (with_reducible refine Below.trans ?_ (Below.mono hb7 ?_)) | (with_reducible refine Below.trans ?_ (Below.mono hb8 ?_)) | (with_reducible refine Below.trans ?_ (Below.mono hb9 ?_)) | (focus (first | omega | (simp; done) | (simp; omega))) | exact hB)))
  go_ret2
  exact ⟨rfl, (by repeat (first | (with_reducible exact Below.refl _ _) | (with_reducible assumption) | (with_reducible refine Below.drew ?_) | (with_reducible refine Below.alloc ?_ ?_ _) | (with_reducible refine Below.setCell ?_ ?_ _) | (with_reducible refine Below.trans ?_ (Below.mono hb ?_)) | (with_reducible refine Below.trans ?_ (Below.mono hb1 ?_)) | (with_reducible refine Below.trans ?_ (Below.mono hb2 ?_)) | (with_reducible refine Below.trans ?_ (Below.mono hb3 ?_)) | (with_reducible refine Below.trans ?_ (Below.mono hb4 ?_)) | (with_reducible refine Below.trans ?_ (Below.mono hb5 ?_)) | (with_reducible refine Below.trans ?_ (Below.mono hb6 ?_)) | (with_reducible refine Below.trans ?_ (Below.mono hb7 ?_)) | (with_reducible refine Below.trans ?_ (Below.mono hb8 ?_)) | (with_reducible refine Below.trans ?_ (Below.mono hb9 ?_)) | (focus (first | omega | (simp; done) | (simp; omega))) | exact hB))⟩
end Go.Proofs.Ytfpeekdjdapcdaa
