import Derived.Test.YtjhepjmggenadaaU
/- Units: Take, Count, take of vec, Sub of a unit. -/
namespace Go.Proofs.Ytjhepjmggenadaa
open Go.RowKit
attribute [local go_sem ↓] Go.wp_at_zero Go.wp_at_succ

theorem utake_any (U : Value) (u : Option Nat) (c a : Int) (o : Bool) (w : World) (hU : Unt w U u c) (hc0 : 0 ≤ c) (hc : c < 1000000000) :
    Calls Try.prog 87 #[U, .int .i64 a, .bool o] w fun e w' => e = .returned (.int .i64 a) ∧ w.grownBy w' u ∧ Unt w' U u (c + ov o) := by
  rcases hU with ⟨rfl, rfl⟩ | ⟨g, rfl, rfl, hb⟩
  · cases o
    all_goals
      go_enter Try.func87, Try.ntmps87
      go_wp2
      go_ret
      exact ⟨rfl, World.grownBy.refl _ _, Unt.nil _ _⟩
  · have hc1 := cell_of_one hb
    have hf1 := free_of_one hb
    have hone := one_setCell (u := .int .i64 (c + 1)) hb
    have hun : Unt w (.pointer (some ⟨g, 0, none⟩)) (some g) c := Unt.at_ hb
    cases o
    · go_enter Try.func87, Try.ntmps87
      go_wp2
      go_ret
      exact ⟨rfl, World.grownBy.refl _ _, by simpa [ov] using hun⟩
    · have hG : w.grownBy (w.setCell ⟨g, 0, none⟩ (.int .i64 (c + 1))) (some g) :=
        ⟨rfl, rfl, rfl, by simp [World.setCell], fun k hk hne => Below.heap_setCell _ _ _ _ (by rintro rfl; exact hne rfl)⟩
      have hV : Unt (w.setCell ⟨g, 0, none⟩ (.int .i64 (c + 1))) (.pointer (some ⟨g, 0, none⟩)) (some g) (c + ov true) := by
        simpa [ov] using Unt.at_ hone
      clear hone hb hun
      go_enter Try.func87, Try.ntmps87
      go_wp2
      go_ret
      exact ⟨rfl, hG, hV⟩
theorem ucount_any (U : Value) (u : Option Nat) (c : Int) (w : World) (hU : Unt w U u c) :
    Calls Try.prog 51 #[U] w fun e w' => e = .returned (.int .i64 (if u = none then 0 else c)) ∧ w = w' := by
  rcases hU with ⟨rfl, rfl⟩ | ⟨g, rfl, rfl, hb⟩
  · go_enter Try.func51, Try.ntmps51
    go_wp2
    go_ret
    exact ⟨rfl, rfl⟩
  · have hc1 := cell_of_one hb
    have hf1 := free_of_one hb
    clear hb
    go_enter Try.func51, Try.ntmps51
    go_wp2_with (go_at_call 88; go_in)
    go_ret
    exact ⟨by simp, rfl⟩
theorem usub_any (U : Value) (u : Option Nat) (c a b : Int) (ha : In64 a) (hb0 : In64 b) (w : World) (hU : Unt w U u c) (hc0 : 0 ≤ c) (hc : c < 1000000000) :
    Calls Try.prog 81 #[U, .int .i64 a, .int .i64 b] w fun e w' => e = .returned (.int .i64 (clampI (a - b))) ∧ w.grownBy w' u ∧ Unt w' U u (c + ov (overI (a - b))) := by
  have hmf : ∀ (fn : Fn) (first cap : Array Value) (w : World), (Instr.makeFunc fn first cap).run Try.prog w = .ok (.func fn first cap) w := fun _ _ _ _ => rfl
  go_enter Try.func81, Try.ntmps81
  go_wp2_with (first
    | (go_at_call 101; go_in)
    | (go_at_call 33; refine (fsub_any a b ha hb0 _).mono ?_; rintro e w1 ⟨rfl, hb1⟩; obtain ⟨hc1, hf1, hz1⟩ := bcell hb1; (try simp at hz1); (try have : w.heap.size < w1.heap.size := by omega); (try have : w.heap.size + 1 < w1.heap.size := by omega); (try have : w.heap.size + 1 + 1 < w1.heap.size := by omega); (try have : w.heap.size + 1 + 1 + 1 < w1.heap.size := by omega); (try have : g < w1.heap.size := by omega); (try have : ga < w1.heap.size := by omega); (try have : gb < w1.heap.size := by omega); (try have : gc < w1.heap.size := by omega); have hB : Below w.heap.size w w1 := (by repeat (first | (with_reducible exact Below.refl _ _) | (with_reducible assumption) | (with_reducible refine Below.drew ?_) | (with_reducible refine Below.alloc ?_ ?_ _) | (with_reducible refine Below.setCell ?_ ?_ _) | (with_reducible refine Below.trans ?_ (Below.mono hb ?_)) | (with_reducible refine Below.trans ?_ (Below.mono hb1 ?_)) | (with_reducible refine Below.trans ?_ (Below.mono hb2 ?_)) | (with_reducible refine Below.trans ?_ (Below.mono hb3 ?_)) | (with_reducible refine Below.trans ?_ (Below.mono hb4 ?_)) | (with_reducible refine Below.trans ?_ (Below.mono hb5 ?_)) | (with_reducible refine Below.trans ?_ (Below.mono hb6 ?_)) | (with_reducible refine Below.trans ?_ (Below.mono hb7 ?_)) | (with_reducible refine Below.trans ?_ (Below.mono hb8 ?_)) | (with_reducible refine Below.trans ?_ (Below.mono hb9 ?_)) | (focus (first | omega | (simp; done) | (simp; omega))) | exact hB)))
    | (go_at_call 87; refine (utake_any U u c _ _ _ (hU.call (by repeat (first | (with_reducible exact Below.refl _ _) | (with_reducible assumption) | (with_reducible refine Below.drew ?_) | (with_reducible refine Below.alloc ?_ ?_ _) | (with_reducible refine Below.setCell ?_ ?_ _) | (with_reducible refine Below.trans ?_ (Below.mono hb ?_)) | (with_reducible refine Below.trans ?_ (Below.mono hb1 ?_)) | (with_reducible refine Below.trans ?_ (Below.mono hb2 ?_)) | (with_reducible refine Below.trans ?_ (Below.mono hb3 ?_)) | (with_reducible refine Below.trans ?_ (Below.mono hb4 ?_)) | (with_reducible refine Below.trans ?_ (Below.mono hb5 ?_)) | (with_reducible refine Below.trans ?_ (Below.mono hb6 ?_)) | (with_reducible refine Below.trans ?_ (Below.mono hb7 ?_)) | (with_reducible refine Below.trans ?_ (Below.mono hb8 ?_)) | (with_reducible refine Below.trans ?_ (Below.mono hb9 ?_)) | (focus (first | omega | (simp; done) | (simp; omega))) | exact hB))) hc0 hc).mono ?_; rintro e w2 ⟨rfl, hg, hV⟩))
  go_ret
  exact ⟨rfl, gr_trans (gr_below hB u) hg, hV⟩
end Go.Proofs.Ytjhepjmggenadaa
