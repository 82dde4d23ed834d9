import Derived.Test.YtikjomekhnkgcaaV2
import Derived.Test.YtikjomekhnkgcaaMC
/- Sub and Add of vectors. -/
namespace Go.Proofs.Ytikjomekhnkgcaa
open Go.RowKit
attribute [local go_sem ↓] Go.wp_at_zero Go.wp_at_succ


def subV (xs ys : List Int) (i : Nat) : Int := xs.getD i 0 - ys.getD i 0
set_option maxHeartbeats 1000000 in
theorem sub1_any (i n cp : Nat) (x c : Int) (A : Option Addr) (ys : List Int) (U : Value) (u : Option Nat) (B3 B5 : Nat) (hx : In64 x) (hys : All64 ys) (hlt : i < n) (hn : n < 1000000) (w : World)
    (c3 : w.cell? ⟨B3, 0, none⟩ = some U) (c5 : w.cell? ⟨B5, 0, none⟩ = some (.slice A n cp))
    (n3 : ¬ some B3 = u) (n5 : ¬ some B5 = u) (hr : Rd w u A n ys) (hU : Unt w U u c) (hc0 : 0 ≤ c) (hc : c < 1000000000) :
    Calls Try.prog 63 #[.int .i64 i, .int .i64 x, .pointer (some ⟨B3, 0, none⟩), .pointer (some ⟨B5, 0, none⟩)] w fun e w' =>
      e = .returned (.int .i64 (clampI (x - ys.getD i 0))) ∧ w.grownBy w' u ∧ Unt w' U u (c + ov (overI (x - ys.getD i 0))) := by
  have hy := hys i
  obtain ⟨b, off, rfl, hb, hbu, hcells⟩ := hr.2 (by omega)
  have cy := hcells i hlt
  have US := Lib.hid (fun W hU => usub_any U u c x (ys.getD i 0) hx hy W hU hc0 hc)
  have nb : ¬ some b = u := hbu
  clear hcells hr hys hbu
  generalize ys.getD i 0 = y at *
  have k3 := World.block_lt_of_cell? w _ c3
  have k5 := World.block_lt_of_cell? w _ c5
  have ia : (0 : Int) ≤ (i : Int) := by omega
  have ib : (i : Int) < (n : Int) := by omega
  go_enter Try.func63, Try.ntmps63
  go_wp2
  refine at_world fun W0 hW0 => ?_
  obtain rfl : W0 = w := hW0
  have hB := Below.refl W0.heap.size W0
  go_region_held3 (fun w' => W0.grownBy w' u ∧ ∀ b o, b < W0.heap.size → ¬ some b = u → w'.cell? ⟨b, o, none⟩ = W0.cell? ⟨b, o, none⟩) ((first | (refine su_call ?_ hb; assumption) | (refine su_gr ?_ hg; assumption) | exact su_of (by repeat (first | assumption | exact World.grownBy.refl _ _ | refine gr_drew ?_ | refine gr_alloc ?_ _ | refine gr_set ?_ (by first | omega | (simp; done) | (simp; omega)) _))))
    ((go_at_call 64; refine (US.out _ (Unt.call hU (by repeat (first | (with_reducible exact Below.refl _ _) | (with_reducible assumption) | (with_reducible refine Below.drew ?_) | (with_reducible refine Below.alloc ?_ ?_ _) | (with_reducible refine Below.setCell ?_ ?_ _) | (with_reducible refine Below.trans ?_ (Below.mono hb ?_)) | (with_reducible refine Below.trans ?_ (Below.mono hb1 ?_)) | (with_reducible refine Below.trans ?_ (Below.mono hb2 ?_)) | (with_reducible refine Below.trans ?_ (Below.mono hb3 ?_)) | (with_reducible refine Below.trans ?_ (Below.mono hb4 ?_)) | (with_reducible refine Below.trans ?_ (Below.mono hb5 ?_)) | (with_reducible refine Below.trans ?_ (Below.mono hb6 ?_)) | (with_reducible refine Below.trans ?_ (Below.mono hb7 ?_)) | (with_reducible refine Below.trans ?_ (Below.mono hb8 ?_)) | (with_reducible refine Below.trans ?_ (Below.mono hb9 ?_)) | (focus (first | omega | (simp; done) | (simp; omega))) | exact hB)))).mono ?_; rintro e wl ⟨rfl, hg, hV⟩))
  all_goals
    go_wp2
    go_ret
    exact ⟨rfl, gr_trans (gr_below ((by repeat (first | (with_reducible exact Below.refl _ _) | (with_reducible assumption) | (with_reducible refine Below.drew ?_) | (with_reducible refine Below.alloc ?_ ?_ _) | (with_reducible refine Below.setCell ?_ ?_ _) | (with_reducible refine Below.trans ?_ (Below.mono hb ?_)) | (with_reducible refine Below.trans ?_ (Below.mono hb1 ?_)) | (with_reducible refine Below.trans ?_ (Below.mono hb2 ?_)) | (with_reducible refine Below.trans ?_ (Below.mono hb3 ?_)) | (with_reducible refine Below.trans ?_ (Below.mono hb4 ?_)) | (with_reducible refine Below.trans ?_ (Below.mono hb5 ?_)) | (with_reducible refine Below.trans ?_ (Below.mono hb6 ?_)) | (with_reducible refine Below.trans ?_ (Below.mono hb7 ?_)) | (with_reducible refine Below.trans ?_ (Below.mono hb8 ?_)) | (with_reducible refine Below.trans ?_ (Below.mono hb9 ?_)) | (focus (first | omega | (simp; done) | (simp; omega))) | exact hB)) : Below W0.heap.size W0 W0.drew) u) hg, hV⟩
set_option maxHeartbeats 1000000 in
theorem each_sub (n cp : Nat) (A : Option Addr) (xs : List Int) (v : Nat → Int) (U : Value) (u : Option Nat) (c : Int) (p1 p2 : Value) (w : World) (hn : n < 1000000) (hr : Rd w u A n xs)
    (hU : Unt w U u c) (hc0 : 0 ≤ c) (hc : c + n < 1000000000) (hul : ∀ g, u = some g → g < w.heap.size)
    (HK : ∀ (i : Nat) (c1 : Int) (w1 : World), i < n → w.grownBy w1 u → Unt w1 U u c1 → 0 ≤ c1 → c1 < 1000000000 →
      Calls Try.prog 63 #[.int .i64 i, .int .i64 (xs.getD i 0), p1, p2] w1 fun e w' => e = .returned (.int .i64 (clampI (v i))) ∧ w1.grownBy w' u ∧ Unt w' U u (c1 + ov (overI (v i)))) :
    Calls Try.prog 54 #[.slice A n cp, .func (.func 63) #[] #[p1, p2]] w (GotF w U u c (rowI v n) (cntI v n)) := by
  have hmax : n ≤ 9223372036854775807 := by omega
  obtain ⟨i0, hi, hz0, hz1, hz2⟩ := info_parts infoFix
  go_enter Try.func54, Try.ntmps54
  go_wp2_with (at_make; refine wpList_make_own _ rfl _ _ 22 rfl w.heap.size 28 i0 (.int .i64 0) 1 Try.underlying22 hi hz0 hz1 .i64 .i64 n n rfl rfl rfl (by rw [hz2]; omega) (by unfold maxLen; omega) (Nat.le_refl _) ?_; intro w1 hown hgrow)
  go_loopw [5, 13] (fun o i wr => ∃ k : Nat, k ≤ n ∧ i = .int .i64 k ∧ OwnF w.heap.size wr o (rowI v k) ∧ w.grownBy wr u ∧ Unt wr U u (c + cntI v k)) (fun _ i _ => n - (intOf i).toNat)
  case atStart =>
    have hb : Below w.heap.size w w1 := ⟨hgrow.os, hgrow.tape, hgrow.output, hgrow.size, fun k hk => hgrow.block k hk (by simp)⟩
    exact ⟨0, Nat.zero_le _, rfl, hown, gr_below hb u, by simpa [cntI] using hU.call hb⟩
  case round =>
    clear hown hgrow
    obtain ⟨k, hk, rfl, hownk, hG, hV⟩ := hrel
    have hsz := hG.size
    have hcb := cntI_bound v k
    by_cases hlt : k < n
    · obtain ⟨b, off, rfl, hb, hbu, hcells⟩ := (hr.grown hG).2 (by omega)
      have hcx := hcells k hlt
      clear hcells
      go_wp2_with (first
        | (go_at_call 63; refine (HK k _ _ hlt hG hV (by omega) (by omega)).mono ?_; rintro e w2 ⟨rfl, hg2, hV2⟩)
        | (at_builtin; refine app_fix (by have := hg2.size; omega) (own_row (hownk.grown hg2 hul)) (by omega) rfl rfl rfl _ rfl rfl ?_; intro v' w3 hown3 hb3))
      go_roundw
      case rel => exact ⟨k + 1, by omega, by simp, own_next hown3, gr_low (gr_trans hG hg2) hb3, by rw [cntI, ← Int.add_assoc]; exact hV2.low hb3 hul⟩
      case measure => simp [intOf]; omega
    · obtain rfl : k = n := by omega
      go_wp2
      go_ret
      exact ⟨_, rfl, hownk, hG, hV⟩

set_option maxHeartbeats 1000000 in
theorem vsub_any (A B : Option Addr) (n cp cq : Nat) (xs ys : List Int) (U : Value) (u : Option Nat) (c : Int) (w : World) (hxs : All64 xs) (hys : All64 ys) (hn : n ≤ 65536)
    (hx : Rd w u A n xs) (hy : Rd w u B n ys) (hU : Unt w U u c) (hc0 : 0 ≤ c) (hc : c < 900000000) :
    Calls Try.prog 34 #[U, .slice A n cp, .slice B n cq] w (GotF2 w U u c (rowI (subV xs ys) n) (cntI (subV xs ys) n)) := by
  have hmf : ∀ (fn : Fn) (first cap : Array Value) (w : World), (Instr.makeFunc fn first cap).run Try.prog w = .ok (.func fn first cap) w := fun _ _ _ _ => rfl
  have hul := hU.lt
  have PA := Lib.hid (fun W => pair_any A B n n cp cq W hn hn)
  rw [if_pos rfl] at PA
  have EA := Lib.hid (fun W hr hU' hl HK => each_sub n cp A xs (subV xs ys) U u c (.pointer (some ⟨w.heap.size, 0, none⟩)) (.pointer (some ⟨w.heap.size + 1, 0, none⟩)) W (by omega) hr hU' hc0 (by omega) hl HK)
  go_enter Try.func34, Try.ntmps34
  go_wp2_with (first
    | (go_at_call 51; refine (PA.out _).mono ?_; rintro e w1 ⟨rfl, hb1⟩; obtain ⟨hc1, hf1, hz1⟩ := bcell hb1; (try simp at hz1); (try have : w.heap.size < w1.heap.size := by omega); (try have : w.heap.size + 1 < w1.heap.size := by omega); (try have : w.heap.size + 1 + 1 < w1.heap.size := by omega); (try have : w.heap.size + 1 + 1 + 1 < w1.heap.size := by omega); (try have : g < w1.heap.size := by omega); (try have : ga < w1.heap.size := by omega); (try have : gb < w1.heap.size := by omega); (try have : gc < w1.heap.size := by omega); have hB : Below w.heap.size w w1 := (by repeat (first | (with_reducible exact Below.refl _ _) | (with_reducible assumption) | (with_reducible refine Below.drew ?_) | (with_reducible refine Below.alloc ?_ ?_ _) | (with_reducible refine Below.setCell ?_ ?_ _) | (with_reducible refine Below.trans ?_ (Below.mono hb ?_)) | (with_reducible refine Below.trans ?_ (Below.mono hb1 ?_)) | (with_reducible refine Below.trans ?_ (Below.mono hb2 ?_)) | (with_reducible refine Below.trans ?_ (Below.mono hb3 ?_)) | (with_reducible refine Below.trans ?_ (Below.mono hb4 ?_)) | (with_reducible refine Below.trans ?_ (Below.mono hb5 ?_)) | (with_reducible refine Below.trans ?_ (Below.mono hb6 ?_)) | (with_reducible refine Below.trans ?_ (Below.mono hb7 ?_)) | (with_reducible refine Below.trans ?_ (Below.mono hb8 ?_)) | (with_reducible refine Below.trans ?_ (Below.mono hb9 ?_)) | (focus (first | omega | (simp; done) | (simp; omega))) | exact hB)))
    | (go_at_call 54; refine (EA.out _ (hx.call hB) (hU.call hB) (fun g hg => by have := hul g hg; omega) ?_).mono ?_))
  · intro i c1 wq hi hG hV h0 h1
    have e3 : w1.cell? ⟨w.heap.size, 0, none⟩ = some U := by simp [*, go_sem]; exact hU.one
    have e5 : w1.cell? ⟨w.heap.size + 1, 0, none⟩ = some (.slice B n cq) := by simp [*, go_sem]
    have n3 : some w.heap.size ≠ u := fun e => by have := hul _ e.symm; omega
    have n5 : some (w.heap.size + 1) ≠ u := fun e => by have := hul _ e.symm; omega
    exact sub1_any i n cq (xs.getD i 0) c1 B ys U u _ _ (hxs i) hys hi (by omega) wq
      ((gr_cell hG (World.block_lt_of_cell? w1 _ e3) n3).trans e3) ((gr_cell hG (World.block_lt_of_cell? w1 _ e5) n5).trans e5) n3 n5 ((hy.call hB).grown hG) hV h0 h1
  · rintro e w2 ⟨V, rfl, hO, hG, hV⟩
    go_wp2
    go_ret2
    exact ⟨V, rfl, hO.base (by omega), gr_trans (gr_below hB u) hG, hV⟩
set_option maxHeartbeats 1000000 in
theorem vsub_shape (A B : Option Addr) (n m cp cq : Nat) (U : Value) (w : World) (hn : n ≤ 65536) (hm : m ≤ 65536) (h : n ≠ m) :
    Calls Try.prog 34 #[U, .slice A n cp, .slice B m cq] w fun e w' => e = .returned (.tuple #[.slice none 0 0, .int .i64 40]) ∧ Below w.heap.size w w' := by
  have PA := Lib.hid (fun W => pair_any A B n m cp cq W hn hm)
  rw [if_neg h] at PA
  go_enter Try.func34, Try.ntmps34
  go_wp2_with (go_at_call 51; refine (PA.out _).mono ?_; rintro e w1 ⟨rfl, hb1⟩; obtain ⟨hc1, hf1, hz1⟩ := bcell hb1; (try simp at hz1); (try have : w.heap.size < w1.heap.size := by omega); (try have : w.heap.size + 1 < w1.heap.size := by omega); (try have : w.heap.size + 1 + 1 < w1.heap.size := by omega); (try have : w.heap.size + 1 + 1 + 1 < w1.heap.size := by omega); (try have : g < w1.heap.size := by omega); (try have : ga < w1.heap.size := by omega); (try have : gb < w1.heap.size := by omega); (try have : gc < w1.heap.size := by omega); have hB : Below w.heap.size w w1 := (by repeat (first | (with_reducible exact Below.refl _ _) | (with_reducible assumption) | (with_reducible refine Below.drew ?_) | (with_reducible refine Below.alloc ?_ ?_ _) | (with_reducible refine Below.setCell ?_ ?_ _) | (with_reducible refine Below.trans ?_ (Below.mono hb ?_)) | (with_reducible refine Below.trans ?_ (Below.mono hb1 ?_)) | (with_reducible refine Below.trans ?_ (Below.mono hb2 ?_)) | (with_reducible refine Below.trans ?_ (Below.mono hb3 ?_)) | (with_reducible refine Below.trans ?_ (Below.mono hb4 ?_)) | (with_reducible refine Below.trans ?_ (Below.mono hb5 ?_)) | (with_reducible refine Below.trans ?_ (Below.mono hb6 ?_)) | (with_reducible refine Below.trans ?_ (Below.mono hb7 ?_)) | (with_reducible refine Below.trans ?_ (Below.mono hb8 ?_)) | (with_reducible refine Below.trans ?_ (Below.mono hb9 ?_)) | (focus (first | omega | (simp; done) | (simp; omega))) | exact hB)))
  go_ret2
  exact ⟨rfl, (by repeat (first | (with_reducible exact Below.refl _ _) | (with_reducible assumption) | (with_reducible refine Below.drew ?_) | (with_reducible refine Below.alloc ?_ ?_ _) | (with_reducible refine Below.setCell ?_ ?_ _) | (with_reducible refine Below.trans ?_ (Below.mono hb ?_)) | (with_reducible refine Below.trans ?_ (Below.mono hb1 ?_)) | (with_reducible refine Below.trans ?_ (Below.mono hb2 ?_)) | (with_reducible refine Below.trans ?_ (Below.mono hb3 ?_)) | (with_reducible refine Below.trans ?_ (Below.mono hb4 ?_)) | (with_reducible refine Below.trans ?_ (Below.mono hb5 ?_)) | (with_reducible refine Below.trans ?_ (Below.mono hb6 ?_)) | (with_reducible refine Below.trans ?_ (Below.mono hb7 ?_)) | (with_reducible refine Below.trans ?_ (Below.mono hb8 ?_)) | (with_reducible refine Below.trans ?_ (Below.mono hb9 ?_)) | (focus (first | omega | (simp; done) | (simp; omega))) | exact hB))⟩

def addV (xs ys : List Int) (i : Nat) : Int := xs.getD i 0 + ys.getD i 0
set_option maxHeartbeats 1000000 in
theorem add1_any (i n cp : Nat) (x c : Int) (A : Option Addr) (ys : List Int) (U : Value) (u : Option Nat) (B3 B5 : Nat) (hx : In64 x) (hys : All64 ys) (hlt : i < n) (hn : n < 1000000) (w : World)
    (c3 : w.cell? ⟨B3, 0, none⟩ = some U) (c5 : w.cell? ⟨B5, 0, none⟩ = some (.slice A n cp))
    (n3 : ¬ some B3 = u) (n5 : ¬ some B5 = u) (hr : Rd w u A n ys) (hU : Unt w U u c) (hc0 : 0 ≤ c) (hc : c < 1000000000) :
    Calls Try.prog 61 #[.int .i64 i, .int .i64 x, .pointer (some ⟨B3, 0, none⟩), .pointer (some ⟨B5, 0, none⟩)] w fun e w' =>
      e = .returned (.int .i64 (clampI (x + ys.getD i 0))) ∧ w.grownBy w' u ∧ Unt w' U u (c + ov (overI (x + ys.getD i 0))) := by
  have hy := hys i
  obtain ⟨b, off, rfl, hb, hbu, hcells⟩ := hr.2 (by omega)
  have cy := hcells i hlt
  have US := Lib.hid (fun W hU => uadd_any U u c x (ys.getD i 0) hx hy W hU hc0 hc)
  have nb : ¬ some b = u := hbu
  clear hcells hr hys hbu
  generalize ys.getD i 0 = y at *
  have k3 := World.block_lt_of_cell? w _ c3
  have k5 := World.block_lt_of_cell? w _ c5
  have ia : (0 : Int) ≤ (i : Int) := by omega
  have ib : (i : Int) < (n : Int) := by omega
  go_enter Try.func61, Try.ntmps61
  go_wp2
  refine at_world fun W0 hW0 => ?_
  obtain rfl : W0 = w := hW0
  have hB := Below.refl W0.heap.size W0
  go_region_held3 (fun w' => W0.grownBy w' u ∧ ∀ b o, b < W0.heap.size → ¬ some b = u → w'.cell? ⟨b, o, none⟩ = W0.cell? ⟨b, o, none⟩) ((first | (refine su_call ?_ hb; assumption) | (refine su_gr ?_ hg; assumption) | exact su_of (by repeat (first | assumption | exact World.grownBy.refl _ _ | refine gr_drew ?_ | refine gr_alloc ?_ _ | refine gr_set ?_ (by first | omega | (simp; done) | (simp; omega)) _))))
    ((go_at_call 62; refine (US.out _ (Unt.call hU (by repeat (first | (with_reducible exact Below.refl _ _) | (with_reducible assumption) | (with_reducible refine Below.drew ?_) | (with_reducible refine Below.alloc ?_ ?_ _) | (with_reducible refine Below.setCell ?_ ?_ _) | (with_reducible refine Below.trans ?_ (Below.mono hb ?_)) | (with_reducible refine Below.trans ?_ (Below.mono hb1 ?_)) | (with_reducible refine Below.trans ?_ (Below.mono hb2 ?_)) | (with_reducible refine Below.trans ?_ (Below.mono hb3 ?_)) | (with_reducible refine Below.trans ?_ (Below.mono hb4 ?_)) | (with_reducible refine Below.trans ?_ (Below.mono hb5 ?_)) | (with_reducible refine Below.trans ?_ (Below.mono hb6 ?_)) | (with_reducible refine Below.trans ?_ (Below.mono hb7 ?_)) | (with_reducible refine Below.trans ?_ (Below.mono hb8 ?_)) | (with_reducible refine Below.trans ?_ (Below.mono hb9 ?_)) | (focus (first | omega | (simp; done) | (simp; omega))) | exact hB)))).mono ?_; rintro e wl ⟨rfl, hg, hV⟩))
  all_goals
    go_wp2
    go_ret
    exact ⟨rfl, gr_trans (gr_below ((by repeat (first | (with_reducible exact Below.refl _ _) | (with_reducible assumption) | (with_reducible refine Below.drew ?_) | (with_reducible refine Below.alloc ?_ ?_ _) | (with_reducible refine Below.setCell ?_ ?_ _) | (with_reducible refine Below.trans ?_ (Below.mono hb ?_)) | (with_reducible refine Below.trans ?_ (Below.mono hb1 ?_)) | (with_reducible refine Below.trans ?_ (Below.mono hb2 ?_)) | (with_reducible refine Below.trans ?_ (Below.mono hb3 ?_)) | (with_reducible refine Below.trans ?_ (Below.mono hb4 ?_)) | (with_reducible refine Below.trans ?_ (Below.mono hb5 ?_)) | (with_reducible refine Below.trans ?_ (Below.mono hb6 ?_)) | (with_reducible refine Below.trans ?_ (Below.mono hb7 ?_)) | (with_reducible refine Below.trans ?_ (Below.mono hb8 ?_)) | (with_reducible refine Below.trans ?_ (Below.mono hb9 ?_)) | (focus (first | omega | (simp; done) | (simp; omega))) | exact hB)) : Below W0.heap.size W0 W0.drew) u) hg, hV⟩
set_option maxHeartbeats 1000000 in
theorem each_add (n cp : Nat) (A : Option Addr) (xs : List Int) (v : Nat → Int) (U : Value) (u : Option Nat) (c : Int) (p1 p2 : Value) (w : World) (hn : n < 1000000) (hr : Rd w u A n xs)
    (hU : Unt w U u c) (hc0 : 0 ≤ c) (hc : c + n < 1000000000) (hul : ∀ g, u = some g → g < w.heap.size)
    (HK : ∀ (i : Nat) (c1 : Int) (w1 : World), i < n → w.grownBy w1 u → Unt w1 U u c1 → 0 ≤ c1 → c1 < 1000000000 →
      Calls Try.prog 61 #[.int .i64 i, .int .i64 (xs.getD i 0), p1, p2] w1 fun e w' => e = .returned (.int .i64 (clampI (v i))) ∧ w1.grownBy w' u ∧ Unt w' U u (c1 + ov (overI (v i)))) :
    Calls Try.prog 54 #[.slice A n cp, .func (.func 61) #[] #[p1, p2]] w (GotF w U u c (rowI v n) (cntI v n)) := by
  have hmax : n ≤ 9223372036854775807 := by omega
  obtain ⟨i0, hi, hz0, hz1, hz2⟩ := info_parts infoFix
  go_enter Try.func54, Try.ntmps54
  go_wp2_with (at_make; refine wpList_make_own _ rfl _ _ 22 rfl w.heap.size 28 i0 (.int .i64 0) 1 Try.underlying22 hi hz0 hz1 .i64 .i64 n n rfl rfl rfl (by rw [hz2]; omega) (by unfold maxLen; omega) (Nat.le_refl _) ?_; intro w1 hown hgrow)
  go_loopw [5, 13] (fun o i wr => ∃ k : Nat, k ≤ n ∧ i = .int .i64 k ∧ OwnF w.heap.size wr o (rowI v k) ∧ w.grownBy wr u ∧ Unt wr U u (c + cntI v k)) (fun _ i _ => n - (intOf i).toNat)
  case atStart =>
    have hb : Below w.heap.size w w1 := ⟨hgrow.os, hgrow.tape, hgrow.output, hgrow.size, fun k hk => hgrow.block k hk (by simp)⟩
    exact ⟨0, Nat.zero_le _, rfl, hown, gr_below hb u, by simpa [cntI] using hU.call hb⟩
  case round =>
    clear hown hgrow
    obtain ⟨k, hk, rfl, hownk, hG, hV⟩ := hrel
    have hsz := hG.size
    have hcb := cntI_bound v k
    by_cases hlt : k < n
    · obtain ⟨b, off, rfl, hb, hbu, hcells⟩ := (hr.grown hG).2 (by omega)
      have hcx := hcells k hlt
      clear hcells
      go_wp2_with (first
        | (go_at_call 61; refine (HK k _ _ hlt hG hV (by omega) (by omega)).mono ?_; rintro e w2 ⟨rfl, hg2, hV2⟩)
        | (at_builtin; refine app_fix (by have := hg2.size; omega) (own_row (hownk.grown hg2 hul)) (by omega) rfl rfl rfl _ rfl rfl ?_; intro v' w3 hown3 hb3))
      go_roundw
      case rel => exact ⟨k + 1, by omega, by simp, own_next hown3, gr_low (gr_trans hG hg2) hb3, by rw [cntI, ← Int.add_assoc]; exact hV2.low hb3 hul⟩
      case measure => simp [intOf]; omega
    · obtain rfl : k = n := by omega
      go_wp2
      go_ret
      exact ⟨_, rfl, hownk, hG, hV⟩

set_option maxHeartbeats 1000000 in
theorem vadd_any (A B : Option Addr) (n cp cq : Nat) (xs ys : List Int) (U : Value) (u : Option Nat) (c : Int) (w : World) (hxs : All64 xs) (hys : All64 ys) (hn : n ≤ 65536)
    (hx : Rd w u A n xs) (hy : Rd w u B n ys) (hU : Unt w U u c) (hc0 : 0 ≤ c) (hc : c < 900000000) :
    Calls Try.prog 33 #[U, .slice A n cp, .slice B n cq] w (GotF2 w U u c (rowI (addV xs ys) n) (cntI (addV xs ys) n)) := by
  have hmf : ∀ (fn : Fn) (first cap : Array Value) (w : World), (Instr.makeFunc fn first cap).run Try.prog w = .ok (.func fn first cap) w := fun _ _ _ _ => rfl
  have hul := hU.lt
  have PA := Lib.hid (fun W => pair_any A B n n cp cq W hn hn)
  rw [if_pos rfl] at PA
  have EA := Lib.hid (fun W hr hU' hl HK => each_add n cp A xs (addV xs ys) U u c (.pointer (some ⟨w.heap.size, 0, none⟩)) (.pointer (some ⟨w.heap.size + 1, 0, none⟩)) W (by omega) hr hU' hc0 (by omega) hl HK)
  go_enter Try.func33, Try.ntmps33
  go_wp2_with (first
    | (go_at_call 51; refine (PA.out _).mono ?_; rintro e w1 ⟨rfl, hb1⟩; obtain ⟨hc1, hf1, hz1⟩ := bcell hb1; (try simp at hz1); (try have : w.heap.size < w1.heap.size := by omega); (try have : w.heap.size + 1 < w1.heap.size := by omega); (try have : w.heap.size + 1 + 1 < w1.heap.size := by omega); (try have : w.heap.size + 1 + 1 + 1 < w1.heap.size := by omega); (try have : g < w1.heap.size := by omega); (try have : ga < w1.heap.size := by omega); (try have : gb < w1.heap.size := by omega); (try have : gc < w1.heap.size := by omega); have hB : Below w.heap.size w w1 := (by repeat (first | (with_reducible exact Below.refl _ _) | (with_reducible assumption) | (with_reducible refine Below.drew ?_) | (with_reducible refine Below.alloc ?_ ?_ _) | (with_reducible refine Below.setCell ?_ ?_ _) | (with_reducible refine Below.trans ?_ (Below.mono hb ?_)) | (with_reducible refine Below.trans ?_ (Below.mono hb1 ?_)) | (with_reducible refine Below.trans ?_ (Below.mono hb2 ?_)) | (with_reducible refine Below.trans ?_ (Below.mono hb3 ?_)) | (with_reducible refine Below.trans ?_ (Below.mono hb4 ?_)) | (with_reducible refine Below.trans ?_ (Below.mono hb5 ?_)) | (with_reducible refine Below.trans ?_ (Below.mono hb6 ?_)) | (with_reducible refine Below.trans ?_ (Below.mono hb7 ?_)) | (with_reducible refine Below.trans ?_ (Below.mono hb8 ?_)) | (with_reducible refine Below.trans ?_ (Below.mono hb9 ?_)) | (focus (first | omega | (simp; done) | (simp; omega))) | exact hB)))
    | (go_at_call 54; refine (EA.out _ (hx.call hB) (hU.call hB) (fun g hg => by have := hul g hg; omega) ?_).mono ?_))
  · intro i c1 wq hi hG hV h0 h1
    have e3 : w1.cell? ⟨w.heap.size, 0, none⟩ = some U := by simp [*, go_sem]; exact hU.one
    have e5 : w1.cell? ⟨w.heap.size + 1, 0, none⟩ = some (.slice B n cq) := by simp [*, go_sem]
    have n3 : some w.heap.size ≠ u := fun e => by have := hul _ e.symm; omega
    have n5 : some (w.heap.size + 1) ≠ u := fun e => by have := hul _ e.symm; omega
    exact add1_any i n cq (xs.getD i 0) c1 B ys U u _ _ (hxs i) hys hi (by omega) wq
      ((gr_cell hG (World.block_lt_of_cell? w1 _ e3) n3).trans e3) ((gr_cell hG (World.block_lt_of_cell? w1 _ e5) n5).trans e5) n3 n5 ((hy.call hB).grown hG) hV h0 h1
  · rintro e w2 ⟨V, rfl, hO, hG, hV⟩
    go_wp2
    go_ret2
    exact ⟨V, rfl, hO.base (by omega), gr_trans (gr_below hB u) hG, hV⟩
set_option maxHeartbeats 1000000 in
theorem vadd_shape (A B : Option Addr) (n m cp cq : Nat) (U : Value) (w : World) (hn : n ≤ 65536) (hm : m ≤ 65536) (h : n ≠ m) :
    Calls Try.prog 33 #[U, .slice A n cp, .slice B m cq] w fun e w' => e = .returned (.tuple #[.slice none 0 0, .int .i64 40]) ∧ Below w.heap.size w w' := by
  have PA := Lib.hid (fun W => pair_any A B n m cp cq W hn hm)
  rw [if_neg h] at PA
  go_enter Try.func33, Try.ntmps33
  go_wp2_with (go_at_call 51; refine (PA.out _).mono ?_; rintro e w1 ⟨rfl, hb1⟩; obtain ⟨hc1, hf1, hz1⟩ := bcell hb1; (try simp at hz1); (try have : w.heap.size < w1.heap.size := by omega); (try have : w.heap.size + 1 < w1.heap.size := by omega); (try have : w.heap.size + 1 + 1 < w1.heap.size := by omega); (try have : w.heap.size + 1 + 1 + 1 < w1.heap.size := by omega); (try have : g < w1.heap.size := by omega); (try have : ga < w1.heap.size := by omega); (try have : gb < w1.heap.size := by omega); (try have : gc < w1.heap.size := by omega); have hB : Below w.heap.size w w1 := (by repeat (first | (with_reducible exact Below.refl _ _) | (with_reducible assumption) | (with_reducible refine Below.drew ?_) | (with_reducible refine Below.alloc ?_ ?_ _) | (with_reducible refine Below.setCell ?_ ?_ _) | (with_reducible refine Below.trans ?_ (Below.mono hb ?_)) | (with_reducible refine Below.trans ?_ (Below.mono hb1 ?_)) | (with_reducible refine Below.trans ?_ (Below.mono hb2 ?_)) | (with_reducible refine Below.trans ?_ (Below.mono hb3 ?_)) | (with_reducible refine Below.trans ?_ (Below.mono hb4 ?_)) | (with_reducible refine Below.trans ?_ (Below.mono hb5 ?_)) | (with_reducible refine Below.trans ?_ (Below.mono hb6 ?_)) | (with_reducible refine Below.trans ?_ (Below.mono hb7 ?_)) | (with_reducible refine Below.trans ?_ (Below.mono hb8 ?_)) | (with_reducible refine Below.trans ?_ (Below.mono hb9 ?_)) | (focus (first | omega | (simp; done) | (simp; omega))) | exact hB)))
  go_ret2
  exact ⟨rfl, (by repeat (first | (with_reducible exact Below.refl _ _) | (with_reducible assumption) | (with_reducible refine Below.drew ?_) | (with_reducible refine Below.alloc ?_ ?_ _) | (with_reducible refine Below.setCell ?_ ?_ _) | (with_reducible refine Below.trans ?_ (Below.mono hb ?_)) | (with_reducible refine Below.trans ?_ (Below.mono hb1 ?_)) | (with_reducible refine Below.trans ?_ (Below.mono hb2 ?_)) | (with_reducible refine Below.trans ?_ (Below.mono hb3 ?_)) | (with_reducible refine Below.trans ?_ (Below.mono hb4 ?_)) | (with_reducible refine Below.trans ?_ (Below.mono hb5 ?_)) | (with_reducible refine Below.trans ?_ (Below.mono hb6 ?_)) | (with_reducible refine Below.trans ?_ (Below.mono hb7 ?_)) | (with_reducible refine Below.trans ?_ (Below.mono hb8 ?_)) | (with_reducible refine Below.trans ?_ (Below.mono hb9 ?_)) | (focus (first | omega | (simp; done) | (simp; omega))) | exact hB))⟩

end Go.Proofs.Ytikjomekhnkgcaa
