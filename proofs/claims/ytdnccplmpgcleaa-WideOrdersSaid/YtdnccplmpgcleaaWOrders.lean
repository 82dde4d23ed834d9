import Derived.Test.YtdnccplmpgcleaaAw1
/- The law WideOrders, walked. -/
namespace Go.Proofs.Ytdnccplmpgcleaa
open Go.RowKit
attribute [local go_sem ↓] Go.wp_at_zero Go.wp_at_succ

theorem orders_plain (a b c : Int) (ha : In128 a) : w128 (b + a) = w128 (a + b) ∧ w128 (a + w128 (b + c)) = w128 (w128 (a + b) + c) ∧ w128 (w128 (a + b) - b) = a ∧ w128 (a + w128 (-a)) = 0 := by
  unfold In128 at ha; unfold w128; refine ⟨by rw [Int.add_comm b a], by omega, by omega, by omega⟩

set_option maxHeartbeats 2000000 in
theorem wideOrders_walk (a b c : Int) (ha : In128 a) (_hb : In128 b) (_hc : In128 c) (w : World) :
    Calls Try.prog 8 #[.agg #[.int .i64 (hi a), .int .u64 (lo a)], .agg #[.int .i64 (hi b), .int .u64 (lo b)], .agg #[.int .i64 (hi c), .int .u64 (lo c)]] w fun e w' =>
      e = .returned (.bool true) ∧ Below w.heap.size w w' := by
  have AW := Lib.hid (fun W => awake_any W)
  have AD := Lib.hid (fun x y W => add_any x y W)
  have SU := Lib.hid (fun x y W => sub_any x y W)
  have NE := Lib.hid (fun x W => neg_any x W)
  obtain ⟨e1, e2, e3, e4⟩ := orders_plain a b c ha
  obtain ⟨s, es⟩ : ∃ s, w128 (a + b) = s := ⟨_, rfl⟩
  obtain ⟨t, et⟩ : ∃ t, w128 (b + c) = t := ⟨_, rfl⟩
  obtain ⟨u, eu⟩ : ∃ u, w128 (-a) = u := ⟨_, rfl⟩
  rw [es] at e1 e2 e3
  rw [et] at e2
  rw [eu] at e4
  obtain ⟨S, eS⟩ : ∃ S, w128 (s + c) = S := ⟨_, rfl⟩
  rw [eS] at e2
  have z1 : hi 0 = 0 := rfl
  have z2 : lo 0 = 0 := rfl
  go_enter Try.func8, Try.ntmps8
  go_wp2_with (go_at_call 16; refine (AW.out _).mono ?_; rintro e w1 ⟨rfl, hb1⟩; obtain ⟨hc1, hf1, hz1⟩ := bcell hb1; (try simp at hz1); (try have : w.heap.size < w1.heap.size := by omega); (try have : w.heap.size + 1 < w1.heap.size := by omega); (try have : w.heap.size + 1 + 1 < w1.heap.size := by omega); (try have : w.heap.size + 1 + 1 + 1 < w1.heap.size := by omega); (try have : g < w1.heap.size := by omega); (try have : ga < w1.heap.size := by omega); (try have : gb < w1.heap.size := by omega); (try have : gc < w1.heap.size := by omega))
  have B1 : Below w.heap.size w w1 := (by repeat (first | exact Below.refl _ _ | refine Below.drew ?_ | refine Below.alloc ?_ (by first | omega | (simp; done) | (simp; omega)) _ | refine Below.setCell ?_ (by first | omega | (simp; done) | (simp; omega)) _ | exact BC | exact BW | refine Below.trans ?_ (Below.mono hb1 (by first | omega | (simp; done) | (simp; omega))) | refine Below.trans ?_ (Below.mono hb2 (by first | omega | (simp; done) | (simp; omega))) | refine Below.trans ?_ (Below.mono hb3 (by first | omega | (simp; done) | (simp; omega))) | refine Below.trans ?_ (Below.mono hb4 (by first | omega | (simp; done) | (simp; omega))) | refine Below.trans ?_ (Below.mono hb5 (by first | omega | (simp; done) | (simp; omega))) | refine Below.trans ?_ (Below.mono hb6 (by first | omega | (simp; done) | (simp; omega))) | refine Below.trans ?_ (Below.mono hb7 (by first | omega | (simp; done) | (simp; omega))) | refine Below.trans ?_ (Below.mono hb8 (by first | omega | (simp; done) | (simp; omega))) | refine Below.trans ?_ (Below.mono hb9 (by first | omega | (simp; done) | (simp; omega)))))
  have c0 : w1.cell? ⟨w.heap.size, 0, none⟩ = some (.int .i64 (hi a)) := by simp [hc1, go_sem]
  have c1 : w1.cell? ⟨w.heap.size, 1, none⟩ = some (.int .u64 (lo a)) := by simp [hc1, go_sem]
  have c2 : w1.cell? ⟨w.heap.size + 1, 0, none⟩ = some (.int .i64 (hi b)) := by simp [hc1, go_sem]
  have c3 : w1.cell? ⟨w.heap.size + 1, 1, none⟩ = some (.int .u64 (lo b)) := by simp [hc1, go_sem]
  have c4 : w1.cell? ⟨w.heap.size + 1 + 1, 0, none⟩ = some (.int .i64 (hi c)) := by simp [hc1, go_sem]
  have c5 : w1.cell? ⟨w.heap.size + 1 + 1, 1, none⟩ = some (.int .u64 (lo c)) := by simp [hc1, go_sem]
  have k0 : w.heap.size < w1.heap.size := by omega
  have k1 : w.heap.size + 1 < w1.heap.size := by omega
  have k2 : w.heap.size + 1 + 1 < w1.heap.size := by omega
  clear hc1 hf1 hz1 hb1
  refine at_world fun W0 hW0 => ?_
  rw [← hW0] at c0 c1 c2 c3 c4 c5 k0 k1 k2 B1
  clear hW0
  go_region_held3 (fun w' => Below W0.heap.size W0 w' ∧ ∀ b o, b < W0.heap.size → w'.cell? ⟨b, o, none⟩ = W0.cell? ⟨b, o, none⟩) ((first | (refine sb_call ?_ hb1; assumption) | (refine sb_call ?_ hb2; assumption) | (refine sb_call ?_ hb3; assumption) | (refine sb_call ?_ hb4; assumption) | (refine sb_call ?_ hb5; assumption) | (refine sb_call ?_ hb6; assumption) | (refine sb_call ?_ hb7; assumption) | (refine sb_call ?_ hb8; assumption) | (refine sb_call ?_ hb9; assumption) | exact sb_of (by repeat (first | exact Below.refl _ _ | exact hB | exact hs1 | exact hs2 | exact hs3 | exact hs4 | exact hs5 | exact hs6 | exact hs7 | exact hs8 | exact hs9 | refine Below.drew ?_ | refine Below.alloc ?_ (by first | omega | (simp; done) | (simp; omega)) _ | refine Below.setCell ?_ (by first | omega | (simp; done) | (simp; omega)) _))))
    (first
      | (go_at_call 23; refine (AD.out _ _ _).mono ?_; rintro e w7 ⟨rfl, hb7⟩; have hs7 := sb_below (by assumption) hb7; have hz7 := hs7.size; obtain ⟨hc7, hf7, hy7⟩ := bcell hb7; (try simp at hy7); (try have : W0.heap.size < w7.heap.size := by omega); (try have : w1.heap.size < w7.heap.size := by omega); (try have : w2.heap.size < w7.heap.size := by omega); (try have : w3.heap.size < w7.heap.size := by omega); (try have : w4.heap.size < w7.heap.size := by omega); (try have : w5.heap.size < w7.heap.size := by omega); (try have : w6.heap.size < w7.heap.size := by omega))
      | (go_at_call 24; refine (SU.out _ _ _).mono ?_; rintro e w7 ⟨rfl, hb7⟩; have hs7 := sb_below (by assumption) hb7; have hz7 := hs7.size; obtain ⟨hc7, hf7, hy7⟩ := bcell hb7; (try simp at hy7); (try have : W0.heap.size < w7.heap.size := by omega); (try have : w1.heap.size < w7.heap.size := by omega); (try have : w2.heap.size < w7.heap.size := by omega); (try have : w3.heap.size < w7.heap.size := by omega); (try have : w4.heap.size < w7.heap.size := by omega); (try have : w5.heap.size < w7.heap.size := by omega); (try have : w6.heap.size < w7.heap.size := by omega))
      | (go_at_call 25; refine (NE.out _ _).mono ?_; rintro e w7 ⟨rfl, hb7⟩; have hs7 := sb_below (by assumption) hb7; have hz7 := hs7.size; obtain ⟨hc7, hf7, hy7⟩ := bcell hb7; (try simp at hy7); (try have : W0.heap.size < w7.heap.size := by omega); (try have : w1.heap.size < w7.heap.size := by omega); (try have : w2.heap.size < w7.heap.size := by omega); (try have : w3.heap.size < w7.heap.size := by omega); (try have : w4.heap.size < w7.heap.size := by omega); (try have : w5.heap.size < w7.heap.size := by omega); (try have : w6.heap.size < w7.heap.size := by omega)))
  all_goals
    go_wp2
    go_ret
    exact ⟨rfl, B1.trans (Below.mono (by first | exact hs7 | exact hs7.drew) (by have := B1.size; omega))⟩
end Go.Proofs.Ytdnccplmpgcleaa
