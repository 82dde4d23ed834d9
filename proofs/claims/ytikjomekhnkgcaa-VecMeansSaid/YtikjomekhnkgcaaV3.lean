import Derived.Test.YtikjomekhnkgcaaV2
/- Axpy. -/
namespace Go.Proofs.Ytikjomekhnkgcaa
open Go.RowKit
attribute [local go_sem ↓] Go.wp_at_zero Go.wp_at_succ

/-- Axpy's parts. -/
def axV (k : Int) (xs ys : List Int) (i : Nat) : Int := axI k (xs.getD i 0) (ys.getD i 0)
set_option maxHeartbeats 1000000 in
theorem axpy_any (A B : Option Addr) (n cp cq : Nat) (xs ys : List Int) (U : Value) (u : Option Nat) (c k : Int) (w : World) (hk : In64 k) (hxs : All64 xs) (hys : All64 ys) (hn : n ≤ 65536)
    (hx : Rd w u A n xs) (hy : Rd w u B n ys) (hU : Unt w U u c) (hc0 : 0 ≤ c) (hc : c < 900000000) :
    Calls Try.prog 35 #[U, .int .i64 k, .slice A n cp, .slice B n cq] w (GotF2 w U u c (rowI (axV k xs ys) n) (cntI (axV k xs ys) n)) := by
  have hmf : ∀ (fn : Fn) (first cap : Array Value) (w : World), (Instr.makeFunc fn first cap).run Try.prog w = .ok (.func fn first cap) w := fun _ _ _ _ => rfl
  have hul := hU.lt
  have PA := Lib.hid (fun W => pair_any A B n n cp cq W hn hn)
  rw [if_pos rfl] at PA
  have EA := Lib.hid (fun W hr hU' hl HK => each_axpy n cp A xs (axV k xs ys) U u c (.pointer (some ⟨w.heap.size + 1, 0, none⟩)) (.pointer (some ⟨w.heap.size + 1 + 1, 0, none⟩)) (.pointer (some ⟨w.heap.size, 0, none⟩)) W (by omega) hr hU' hc0 (by omega) hl HK)
  go_enter Try.func35, Try.ntmps35
  go_wp2_with (first
    | (go_at_call 51; refine (PA.out _).mono ?_; rintro e w1 ⟨rfl, hb1⟩; obtain ⟨hc1, hf1, hz1⟩ := bcell hb1; (try simp at hz1); (try have : w.heap.size < w1.heap.size := by omega); (try have : w.heap.size + 1 < w1.heap.size := by omega); (try have : w.heap.size + 1 + 1 < w1.heap.size := by omega); (try have : w.heap.size + 1 + 1 + 1 < w1.heap.size := by omega); (try have : g < w1.heap.size := by omega); (try have : ga < w1.heap.size := by omega); (try have : gb < w1.heap.size := by omega); (try have : gc < w1.heap.size := by omega); have hB : Below w.heap.size w w1 := (by repeat (first | (with_reducible exact Below.refl _ _) | (with_reducible assumption) | (with_reducible refine Below.drew ?_) | (with_reducible refine Below.alloc ?_ ?_ _) | (with_reducible refine Below.setCell ?_ ?_ _) | (with_reducible refine Below.trans ?_ (Below.mono hb ?_)) | (with_reducible refine Below.trans ?_ (Below.mono hb1 ?_)) | (with_reducible refine Below.trans ?_ (Below.mono hb2 ?_)) | (with_reducible refine Below.trans ?_ (Below.mono hb3 ?_)) | (with_reducible refine Below.trans ?_ (Below.mono hb4 ?_)) | (with_reducible refine Below.trans ?_ (Below.mono hb5 ?_)) | (with_reducible refine Below.trans ?_ (Below.mono hb6 ?_)) | (with_reducible refine Below.trans ?_ (Below.mono hb7 ?_)) | (with_reducible refine Below.trans ?_ (Below.mono hb8 ?_)) | (with_reducible refine Below.trans ?_ (Below.mono hb9 ?_)) | (focus (first | omega | (simp; done) | (simp; omega))) | exact hB)))
    | (go_at_call 54; refine (EA.out _ (hx.call hB) (hU.call hB) (fun g hg => by have := hul g hg; omega) ?_).mono ?_))
  · intro i c1 wq hi hG hV h0 h1
    have e5 : w1.cell? ⟨w.heap.size + 1, 0, none⟩ = some (.int .i64 k) := by simp [*, go_sem]
    have e7 : w1.cell? ⟨w.heap.size + 1 + 1, 0, none⟩ = some (.slice B n cq) := by simp [*, go_sem]
    have e4 : w1.cell? ⟨w.heap.size, 0, none⟩ = some U := by simp [*, go_sem]; exact hU.one
    have n5 : some (w.heap.size + 1) ≠ u := fun e => by have := hul _ e.symm; omega
    have n7 : some (w.heap.size + 1 + 1) ≠ u := fun e => by have := hul _ e.symm; omega
    have n4 : some (w.heap.size) ≠ u := fun e => by have := hul _ e.symm; omega
    exact axpy1_any i n cq k (xs.getD i 0) c1 B ys U u _ _ _ hk (hxs i) hys hi (by omega) wq
      ((gr_cell hG (World.block_lt_of_cell? w1 _ e5) n5).trans e5) ((gr_cell hG (World.block_lt_of_cell? w1 _ e7) n7).trans e7) ((gr_cell hG (World.block_lt_of_cell? w1 _ e4) n4).trans e4) n4
      ((hy.call hB).grown hG) hV h0 h1
  · rintro e w2 ⟨V, rfl, hO, hG, hV⟩
    go_wp2
    go_ret2
    exact ⟨V, rfl, hO.base (by omega), gr_trans (gr_below hB u) hG, hV⟩
end Go.Proofs.Ytikjomekhnkgcaa
