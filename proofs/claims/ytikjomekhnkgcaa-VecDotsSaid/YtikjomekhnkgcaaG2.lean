import Derived.Test.YtikjomekhnkgcaaG1
/- The reference's great numbers: half, Less. -/
namespace Go.Proofs.Ytikjomekhnkgcaa
open Go.RowKit
attribute [local go_sem ↓] Go.wp_at_zero Go.wp_at_succ

set_option maxHeartbeats 1000000 in
theorem half_any (x : Int) (hx : BIG x) (w : World) : Calls Try.prog 105 #[.agg #[.int .u64 (dg 0 (x)), .int .u64 (dg 1 (x)), .int .u64 (dg 2 (x)), .int .u64 (dg 3 (x)), .int .u64 (dg 4 (x)), .int .u64 (dg 5 (x))]] w fun e w' => e = .returned (.tuple #[.agg #[.int .u64 (dg 0 (x / 2)), .int .u64 (dg 1 (x / 2)), .int .u64 (dg 2 (x / 2)), .int .u64 (dg 3 (x / 2)), .int .u64 (dg 4 (x / 2)), .int .u64 (dg 5 (x / 2))], .int .u64 (x % 2)]) ∧ Below w.heap.size w w' := by
  have et := big_top hx
  go_enter Try.func105, Try.ntmps105
  go_wp2
  go_loopw [5, 6] (fun c i wr => ∃ k : Nat, k ≤ 6 ∧ i = .int .i64 ((k : Int) - 1) ∧ c = .int .u64 (hcI k x) ∧ Dg wr w.heap.size x ∧
      wr.heap[w.heap.size + 1]? = some (.cells (upL 0 x) 102 (0, 0)) ∧ wr.heap[w.heap.size + 1 + 1]? = some (.cells (dnL k (x / 2)) 102 (0, 0)) ∧ Below w.heap.size w wr) (fun _ i _ => (intOf i + 1).toNat)
  case atStart =>
    have h0 : (w.alloc (.cells #[.int .u64 (dg 0 (x)), .int .u64 (dg 1 (x)), .int .u64 (dg 2 (x)), .int .u64 (dg 3 (x)), .int .u64 (dg 4 (x)), .int .u64 (dg 5 (x))] 102)).heap[w.heap.size]? = some (.cells #[.int .u64 (dg 0 (x)), .int .u64 (dg 1 (x)), .int .u64 (dg 2 (x)), .int .u64 (dg 3 (x)), .int .u64 (dg 4 (x)), .int .u64 (dg 5 (x))] 102 (0, 0)) := heap_alloc_new w _
    refine ⟨6, by omega, rfl, by unfold hcI; rw [et]; rfl, ?_, ?_, ?_, (by repeat (first | (with_reducible exact Below.refl _ _) | (with_reducible assumption) | (with_reducible refine Below.drew ?_) | (with_reducible refine Below.alloc ?_ ?_ _) | (with_reducible refine Below.setCell ?_ ?_ _) | (with_reducible refine Below.trans ?_ (Below.mono hb ?_)) | (with_reducible refine Below.trans ?_ (Below.mono hb1 ?_)) | (with_reducible refine Below.trans ?_ (Below.mono hb2 ?_)) | (with_reducible refine Below.trans ?_ (Below.mono hb3 ?_)) | (with_reducible refine Below.trans ?_ (Below.mono hb4 ?_)) | (with_reducible refine Below.trans ?_ (Below.mono hb5 ?_)) | (with_reducible refine Below.trans ?_ (Below.mono hb6 ?_)) | (with_reducible refine Below.trans ?_ (Below.mono hb7 ?_)) | (with_reducible refine Below.trans ?_ (Below.mono hb8 ?_)) | (with_reducible refine Below.trans ?_ (Below.mono hb9 ?_)) | (focus (first | omega | (simp; done) | (simp; omega))) | exact hB))⟩
    · exact ((Dg.of h0).call ((Below.refl _ _).alloc (Nat.le_refl _) _)).call ((Below.refl _ _).alloc (Nat.le_refl _) _)
    · rw [Below.heap_alloc _ _ _ (by simp)]; exact newest_at _ _ (by simp)
    · exact newest_at _ _ (by simp)
  case round =>
    obtain ⟨k', hk, rfl, rfl, hA, hR, hO, hB⟩ := hrel
    clear et
    rcases Nat.eq_zero_or_pos k' with h0 | h0
    · subst h0
      rw [dnL_zero] at hO
      rw [upL_zero] at hR
      have e0 : hcI 0 x = x % 2 := by unfold hcI; simp
      rw [e0]
      clear e0
      have o0 := cell_of_row wr (w.heap.size + 1 + 1) 0 _ _ _ hO
      have o1 := cell_of_row wr (w.heap.size + 1 + 1) 1 _ _ _ hO
      have o2 := cell_of_row wr (w.heap.size + 1 + 1) 2 _ _ _ hO
      have o3 := cell_of_row wr (w.heap.size + 1 + 1) 3 _ _ _ hO
      have o4 := cell_of_row wr (w.heap.size + 1 + 1) 4 _ _ _ hO
      have o5 := cell_of_row wr (w.heap.size + 1 + 1) 5 _ _ _ hO
      have r0 := cell_of_row wr (w.heap.size + 1) 0 _ _ _ hR
      have r1 := cell_of_row wr (w.heap.size + 1) 1 _ _ _ hR
      have r2 := cell_of_row wr (w.heap.size + 1) 2 _ _ _ hR
      have r3 := cell_of_row wr (w.heap.size + 1) 3 _ _ _ hR
      have r4 := cell_of_row wr (w.heap.size + 1) 4 _ _ _ hR
      have r5 := cell_of_row wr (w.heap.size + 1) 5 _ _ _ hR
      have rf : ∀ i, wr.frozen? ⟨w.heap.size + 1, i, none⟩ = false := fun i => by simp [World.frozen?, hR]
      simp only [List.getElem?_toArray, List.getElem?_cons_zero, List.getElem?_cons_succ] at o0 o1 o2 o3 o4 o5 r0 r1 r2 r3 r4 r5
      have lR := lt_of_block hR
      have lO := lt_of_block hO
      clear hA hR hO
      go_wp2
      exact bodyPost_ret (v := .tuple #[.agg #[.int .u64 (dg 0 (x / 2)), .int .u64 (dg 1 (x / 2)), .int .u64 (dg 2 (x / 2)), .int .u64 (dg 3 (x / 2)), .int .u64 (dg 4 (x / 2)), .int .u64 (dg 5 (x / 2))], .int .u64 (x % 2)]) (by simp [*, results, Try.results105, go_sem]) rfl ⟨rfl, (by repeat (first | (with_reducible exact Below.refl _ _) | (with_reducible assumption) | (with_reducible refine Below.drew ?_) | (with_reducible refine Below.alloc ?_ ?_ _) | (with_reducible refine Below.setCell ?_ ?_ _) | (with_reducible refine Below.trans ?_ (Below.mono hb ?_)) | (with_reducible refine Below.trans ?_ (Below.mono hb1 ?_)) | (with_reducible refine Below.trans ?_ (Below.mono hb2 ?_)) | (with_reducible refine Below.trans ?_ (Below.mono hb3 ?_)) | (with_reducible refine Below.trans ?_ (Below.mono hb4 ?_)) | (with_reducible refine Below.trans ?_ (Below.mono hb5 ?_)) | (with_reducible refine Below.trans ?_ (Below.mono hb6 ?_)) | (with_reducible refine Below.trans ?_ (Below.mono hb7 ?_)) | (with_reducible refine Below.trans ?_ (Below.mono hb8 ?_)) | (with_reducible refine Below.trans ?_ (Below.mono hb9 ?_)) | (focus (first | omega | (simp; done) | (simp; omega))) | exact hB))⟩
    · obtain ⟨k, rfl⟩ : ∃ k, k' = k + 1 := ⟨k' - 1, by omega⟩
      have hlt : k < 6 := by omega
      obtain ⟨s1, s2⟩ := half_step k x
      obtain ⟨c0, c1⟩ := hc_in (k + 1) x
      obtain ⟨d0, d1⟩ := dg_in k x
      obtain ⟨⟨v0, q0⟩, q1, q2⟩ := fill_get hO (k := k) (by rw [dnL_size]; omega)
      have r1 := hA.2 k hlt
      have lA := hA.1
      have lO := lt_of_block hO
      have ia : (0 : Int) ≤ (k : Int) := by omega
      have ib : (k : Int) < 6 := by omega
      rw [show ((k + 1 : Nat) : Int) - 1 = (k : Int) by omega]
      have S1 := Lib.hid s1
      have S2 := Lib.hid s2
      have Q2 := Lib.hid q2
      generalize dg k x = y at *
      generalize hZ : hcI (k + 1) x = z at *
      have HR := Lib.hid hR
      clear s1 s2 q2 hZ hR
      go_wp2
      have BB := bel_d (w.heap.size + 1 + 1) wr ⟨w.heap.size + 1 + 1, k, none⟩ (.int .u64 ((z * 4294967296 + y) / 2)) (Nat.le_refl _)
      go_roundw
      case rel =>
        refine ⟨k, by omega, by simp, by rw [S2.out], hA.low BB (by omega), (BB.block _ (by omega)).trans HR.out, ?_, hB.trans (BB.mono (by omega))⟩
        rw [S1.out]
        exact (Q2.out _).trans (by rw [dnL_set k _ hlt])
      case measure => simp [intOf]; try omega
theorem less_none (a b : Int) (h : a / 2 ^ (32 * 0) = b / 2 ^ (32 * 0)) : decide (a < b) = false := by simp at h; simp; omega
def SameUp (k : Nat) (a b : Int) : Prop := a / 2 ^ (32 * k) = b / 2 ^ (32 * k)
set_option maxHeartbeats 1000000 in
theorem less_any (a b : Int) (ha : BIG a) (hb0 : BIG b) (w : World) : Calls Try.prog 122 #[.agg #[.int .u64 (dg 0 (a)), .int .u64 (dg 1 (a)), .int .u64 (dg 2 (a)), .int .u64 (dg 3 (a)), .int .u64 (dg 4 (a)), .int .u64 (dg 5 (a))], .agg #[.int .u64 (dg 0 (b)), .int .u64 (dg 1 (b)), .int .u64 (dg 2 (b)), .int .u64 (dg 3 (b)), .int .u64 (dg 4 (b)), .int .u64 (dg 5 (b))]] w fun e w' => e = .returned (.bool (decide (a < b))) ∧ Below w.heap.size w w' := by
  have et : SameUp 6 a b := (big_top ha).trans (big_top hb0).symm
  go_enter Try.func122, Try.ntmps122
  go_wp2
  go_loopw [5] (fun i wr => ∃ k : Nat, k ≤ 6 ∧ i = .int .i64 ((k : Int) - 1) ∧ SameUp k a b ∧ Dg wr w.heap.size a ∧ Dg wr (w.heap.size + 1) b ∧ Below w.heap.size w wr) (fun i _ => (intOf i + 1).toNat)
  case atStart =>
    have h0 : (w.alloc (.cells #[.int .u64 (dg 0 (a)), .int .u64 (dg 1 (a)), .int .u64 (dg 2 (a)), .int .u64 (dg 3 (a)), .int .u64 (dg 4 (a)), .int .u64 (dg 5 (a))] 102)).heap[w.heap.size]? = some (.cells #[.int .u64 (dg 0 (a)), .int .u64 (dg 1 (a)), .int .u64 (dg 2 (a)), .int .u64 (dg 3 (a)), .int .u64 (dg 4 (a)), .int .u64 (dg 5 (a))] 102 (0, 0)) := heap_alloc_new w _
    have h1 : ((w.alloc (.cells #[.int .u64 (dg 0 (a)), .int .u64 (dg 1 (a)), .int .u64 (dg 2 (a)), .int .u64 (dg 3 (a)), .int .u64 (dg 4 (a)), .int .u64 (dg 5 (a))] 102)).alloc (.cells #[.int .u64 (dg 0 (b)), .int .u64 (dg 1 (b)), .int .u64 (dg 2 (b)), .int .u64 (dg 3 (b)), .int .u64 (dg 4 (b)), .int .u64 (dg 5 (b))] 102)).heap[w.heap.size + 1]? = some (.cells #[.int .u64 (dg 0 (b)), .int .u64 (dg 1 (b)), .int .u64 (dg 2 (b)), .int .u64 (dg 3 (b)), .int .u64 (dg 4 (b)), .int .u64 (dg 5 (b))] 102 (0, 0)) := newest_at _ _ (by simp)
    exact ⟨6, by omega, rfl, et, (Dg.of h0).call ((Below.refl _ _).alloc (Nat.le_refl _) _), Dg.of h1, (by repeat (first | (with_reducible exact Below.refl _ _) | (with_reducible assumption) | (with_reducible refine Below.drew ?_) | (with_reducible refine Below.alloc ?_ ?_ _) | (with_reducible refine Below.setCell ?_ ?_ _) | (with_reducible refine Below.trans ?_ (Below.mono hb ?_)) | (with_reducible refine Below.trans ?_ (Below.mono hb1 ?_)) | (with_reducible refine Below.trans ?_ (Below.mono hb2 ?_)) | (with_reducible refine Below.trans ?_ (Below.mono hb3 ?_)) | (with_reducible refine Below.trans ?_ (Below.mono hb4 ?_)) | (with_reducible refine Below.trans ?_ (Below.mono hb5 ?_)) | (with_reducible refine Below.trans ?_ (Below.mono hb6 ?_)) | (with_reducible refine Below.trans ?_ (Below.mono hb7 ?_)) | (with_reducible refine Below.trans ?_ (Below.mono hb8 ?_)) | (with_reducible refine Below.trans ?_ (Below.mono hb9 ?_)) | (focus (first | omega | (simp; done) | (simp; omega))) | exact hB))⟩
  case round =>
    obtain ⟨k', hk, rfl, hS, hA, hB2, hB⟩ := hrel
    clear et
    rcases Nat.eq_zero_or_pos k' with h0 | h0
    · subst h0
      have e := less_none a b hS
      have E := Lib.hid e
      clear e hA hB2
      go_wp2
      go_ret
      exact ⟨by rw [E.out]; rfl, (by repeat (first | (with_reducible exact Below.refl _ _) | (with_reducible assumption) | (with_reducible refine Below.drew ?_) | (with_reducible refine Below.alloc ?_ ?_ _) | (with_reducible refine Below.setCell ?_ ?_ _) | (with_reducible refine Below.trans ?_ (Below.mono hb ?_)) | (with_reducible refine Below.trans ?_ (Below.mono hb1 ?_)) | (with_reducible refine Below.trans ?_ (Below.mono hb2 ?_)) | (with_reducible refine Below.trans ?_ (Below.mono hb3 ?_)) | (with_reducible refine Below.trans ?_ (Below.mono hb4 ?_)) | (with_reducible refine Below.trans ?_ (Below.mono hb5 ?_)) | (with_reducible refine Below.trans ?_ (Below.mono hb6 ?_)) | (with_reducible refine Below.trans ?_ (Below.mono hb7 ?_)) | (with_reducible refine Below.trans ?_ (Below.mono hb8 ?_)) | (with_reducible refine Below.trans ?_ (Below.mono hb9 ?_)) | (focus (first | omega | (simp; done) | (simp; omega))) | exact hB))⟩
    · obtain ⟨k, rfl⟩ : ∃ k, k' = k + 1 := ⟨k' - 1, by omega⟩
      have hlt : k < 6 := by omega
      obtain ⟨d0, d1⟩ := dg_in k a
      obtain ⟨d2, d3⟩ := dg_in k b
      have r1 := hA.2 k hlt
      have r2 := hB2.2 k hlt
      have lA := hA.1
      have lB := hB2.1
      have ia : (0 : Int) ≤ (k : Int) := by omega
      have ib : (k : Int) < 6 := by omega
      rw [show ((k + 1 : Nat) : Int) - 1 = (k : Int) by omega]
      have rA : ∀ n, Dg (wr.drewN n) w.heap.size a := fun n => hA
      have rB : ∀ n, Dg (wr.drewN n) (w.heap.size + 1) b := fun n => hB2
      have rW : ∀ n, Below w.heap.size w (wr.drewN n) := fun n => ⟨hB.os, hB.tape, hB.output, hB.size, hB.block⟩
      by_cases hd : dg k a = dg k b
      · have hS2 : SameUp k a b := less_eq k a b hS hd
        have t : (dg k a != dg k b) = false := by simpa using hd
        generalize dg k a = x at *
        generalize dg k b = y at *
        clear hd hA hB2
        go_wp2
        go_quiet (fail)
        go_wp2
        go_roundw
        case rel => exact ⟨k, by omega, by simp, hS2, rA _, rB _, rW _⟩
        case measure => simp [intOf]; try omega
      · have e := less_ne k a b hS hd
        have t : (dg k a != dg k b) = true := by simpa using hd
        have E := Lib.hid e
        generalize dg k a = x at *
        generalize dg k b = y at *
        clear hd hA hB2 e
        go_wp2
        go_quiet (fail)
        go_wp2
        go_quiet (fail)
        go_wp2
        go_ret
        exact ⟨by rw [E.out]; rfl, ⟨hB.os, hB.tape, hB.output, hB.size, hB.block⟩⟩
end Go.Proofs.Ytikjomekhnkgcaa
