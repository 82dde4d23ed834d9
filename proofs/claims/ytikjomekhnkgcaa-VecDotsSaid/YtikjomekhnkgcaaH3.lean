import Derived.Test.YtikjomekhnkgcaaH2
import Derived.Test.YtikjomekhnkgcaaV4
/- The reference's rows: differences. -/
namespace Go.Proofs.Ytikjomekhnkgcaa
open Go.RowKit
attribute [local go_sem ↓] Go.wp_at_zero Go.wp_at_succ

/-- A row of the reference's own, and how many of its parts were held. -/
def GotR (w : World) (g : Nat) (c : Int) (vs : List Int) (m : Int) (e : Ending) (w' : World) : Prop :=
  ∃ V, e = .returned V ∧ OwnI w.heap.size w' V vs ∧ w.grownBy w' (some g) ∧ Unr w' g (c + m)
theorem own_nextI {B : Nat} {w : World} {V : Value} {v : Nat → Int} {k : Nat} (h : w.ownsRow B 2 1 V (k + 1) ((rowI v k).map iv ++ [.int .i64 (clampI (v k))])) : OwnI B w V (rowI v (k + 1)) := by
  unfold OwnI
  rw [rowI_length, rowI_succ, List.map_append]
  exact h
theorem own_rowI {B : Nat} {w : World} {V : Value} {v : Nat → Int} {k : Nat} (h : OwnI B w V (rowI v k)) : w.ownsRow B 2 1 V k ((rowI v k).map iv) := by
  unfold OwnI at h; rwa [rowI_length] at h
set_option maxHeartbeats 2000000 in
theorem rdiff_any (A C : Option Addr) (n cp cq g : Nat) (xs ys : List Int) (c : Int) (w : World) (hn : n < 1000000) (hxs : All64 xs) (hys : All64 ys)
    (hx : Rd w (some g) A n xs) (hy : Rd w (some g) C n ys) (hU : Unr w g c) (hc0 : 0 ≤ c) (hc : c + n < 1000000000) :
    Calls Try.prog 37 #[.pointer (some ⟨g, 0, none⟩), .slice A n cp, .slice C n cq] w (GotR w g c (rowI (subV xs ys) n) (cntI (subV xs ys) n)) := by
  have hmax : n ≤ 9223372036854775807 := by omega
  have hgl := hU.lt
  have HX := Lib.hid hx
  have HY := Lib.hid hy
  go_enter Try.func37, Try.ntmps37
  go_wp2
  go_loopw [7, 8] (fun o i wr => ∃ k : Nat, k ≤ n ∧ i = .int .i64 k ∧ OwnI w.heap.size wr o (rowI (subV xs ys) k) ∧ w.grownBy wr (some g) ∧ Unr wr g (c + cntI (subV xs ys) k)) (fun _ i _ => n - (intOf i).toNat)
  case atStart => exact ⟨0, Nat.zero_le _, rfl, World.ownsRow_nil _ _ _ _, World.grownBy.refl _ _, by simpa [cntI] using hU⟩
  case round =>
    clear hx hy hU
    obtain ⟨k, hk, rfl, hownk, hG, hV⟩ := hrel
    have hsz := hG.size
    have hcb := cntI_bound (subV xs ys) k
    by_cases hlt : k < n
    · obtain ⟨b1, o1, rfl, g1, _, q1⟩ := (HX.out.grown hG).2 (by omega)
      obtain ⟨b2, o2, rfl, g2, _, q2⟩ := (HY.out.grown hG).2 (by omega)
      replace q1 := q1 k hlt
      replace q2 := q2 k hlt
      have ia : (0 : Int) ≤ (k : Int) := by omega
      have ib : (k : Int) < (n : Int) := by omega
      have SB := Lib.hid (fun W => rsub_any (xs.getD k 0) (ys.getD k 0) (hxs k) (hys k) W)
      rw [show xs.getD k 0 - ys.getD k 0 = subV xs ys k from rfl] at SB
      have TK := Lib.hid (fun W hU' => rtake_any g (c + cntI (subV xs ys) k) (clampI (subV xs ys k)) (overI (subV xs ys k)) W hU' (by omega) (by omega))
      have HO := Lib.hid hownk
      have HGR := Lib.hid hG
      have HV := Lib.hid hV
      clear hownk hG hV hcb
      generalize xs.getD k 0 = x at *
      generalize ys.getD k 0 = y at *
      go_wp2
      refine at_world fun W0 hW0 => ?_
      obtain rfl : W0 = wr := hW0
      have hB := Below.refl W0.heap.size W0
      go_region_held3 (fun w' => Below W0.heap.size W0 w' ∧ ∀ b o, b < W0.heap.size → w'.cell? ⟨b, o, none⟩ = W0.cell? ⟨b, o, none⟩) ((first | (refine sb_call ?_ hb; assumption) | exact sb_of hs | exact sb_of (Below.drew hs) | (refine sb_call ?_ hb1; assumption) | (refine sb_call ?_ hb2; assumption) | (refine sb_call ?_ hb3; assumption) | (refine sb_call ?_ hb4; assumption) | (refine sb_call ?_ hb5; assumption) | (refine sb_call ?_ hb6; assumption) | (refine sb_call ?_ hb7; assumption) | (refine sb_call ?_ hb8; assumption) | (refine sb_call ?_ hb9; assumption) | exact sb_of (by repeat (first | (with_reducible exact Below.refl _ _) | (with_reducible assumption) | (with_reducible refine Below.drew ?_) | (with_reducible refine Below.alloc ?_ ?_ _) | (with_reducible refine Below.setCell ?_ ?_ _) | (with_reducible refine Below.trans ?_ (Below.mono hb ?_)) | (with_reducible refine Below.trans ?_ (Below.mono hb1 ?_)) | (with_reducible refine Below.trans ?_ (Below.mono hb2 ?_)) | (with_reducible refine Below.trans ?_ (Below.mono hb3 ?_)) | (with_reducible refine Below.trans ?_ (Below.mono hb4 ?_)) | (with_reducible refine Below.trans ?_ (Below.mono hb5 ?_)) | (with_reducible refine Below.trans ?_ (Below.mono hb6 ?_)) | (with_reducible refine Below.trans ?_ (Below.mono hb7 ?_)) | (with_reducible refine Below.trans ?_ (Below.mono hb8 ?_)) | (with_reducible refine Below.trans ?_ (Below.mono hb9 ?_)) | (focus (first | omega | (simp; done) | (simp; omega))) | exact hB))))
        ((go_at_call 73; refine (SB.out _).mono ?_; rintro e wk ⟨rfl, hb⟩; (try (have hs := sb_below (by assumption) hb; have hzs := Below.size hs)); (try (first | have q1 := Bt.call q1 hb | have q1 := Bt.call (Bt.drew q1) hb)); (try (first | have q2 := Bt.call q2 hb | have q2 := Bt.call (Bt.drew q2) hb)); (try (first | have q3 := Bt.call q3 hb | have q3 := Bt.call (Bt.drew q3) hb)); (try (first | have q4 := Bt.call q4 hb | have q4 := Bt.call (Bt.drew q4) hb)); (try (first | have q5 := Bt.call q5 hb | have q5 := Bt.call (Bt.drew q5) hb)); (try (first | have q6 := Bt.call q6 hb | have q6 := Bt.call (Bt.drew q6) hb)); (try (first | have q7 := Bt.call q7 hb | have q7 := Bt.call (Bt.drew q7) hb)); (try (first | have q8 := Bt.call q8 hb | have q8 := Bt.call (Bt.drew q8) hb)); (try (first | have q9 := Bt.call q9 hb | have q9 := Bt.call (Bt.drew q9) hb)); (try (first | (have x1 := Cl.call x1 hb; have d1 := x1.2) | (have x1 := Cl.call (Cl.drew x1) hb; have d1 := x1.2))); (try (first | (have x2 := Cl.call x2 hb; have d2 := x2.2) | (have x2 := Cl.call (Cl.drew x2) hb; have d2 := x2.2))); (try (first | (have x3 := Cl.call x3 hb; have d3 := x3.2) | (have x3 := Cl.call (Cl.drew x3) hb; have d3 := x3.2))); (try (first | (have x4 := Cl.call x4 hb; have d4 := x4.2) | (have x4 := Cl.call (Cl.drew x4) hb; have d4 := x4.2))); (try (first | (have x5 := Cl.call x5 hb; have d5 := x5.2) | (have x5 := Cl.call (Cl.drew x5) hb; have d5 := x5.2))); (try (first | (have x6 := Cl.call x6 hb; have d6 := x6.2) | (have x6 := Cl.call (Cl.drew x6) hb; have d6 := x6.2))); (try (first | have hB := Below.trans hB (Below.mono hb (by have := hB.size; first | omega | (simp; done) | (simp; omega))) | have hB := Below.trans (Below.drew hB) (Below.mono hb (by have := hB.size; first | omega | (simp; done) | (simp; omega))))); (try have hz := Below.size hB)))
      go_wp2_with (first
        | (go_at_call 60; refine (TK.out _ (HV.out.call hB)).mono ?_; rintro e w4 ⟨rfl, hg4, hV4⟩; have z4 := hg4.size; have z5 := hB.size)
        | (at_builtin; refine app_i64 (B := w.heap.size) (by omega) (own_rowI ((HO.out.low hB).grown hg4 (by rintro _ ⟨⟩; exact hgl))) (by omega) rfl rfl rfl _ rfl rfl ?_; intro v' w5 hown5 hb5))
      go_roundw
      case rel =>
        exact ⟨k + 1, by omega, by simp, own_nextI hown5, gr_low (gr_trans (gr_call HGR.out hB) hg4) hb5, by rw [cntI, ← Int.add_assoc]; exact hV4.low hb5 hgl⟩
      case measure => simp [intOf]; omega
    · obtain rfl : k = n := by omega
      go_wp2
      go_ret
      exact ⟨_, rfl, hownk, hG, hV⟩
end Go.Proofs.Ytikjomekhnkgcaa
