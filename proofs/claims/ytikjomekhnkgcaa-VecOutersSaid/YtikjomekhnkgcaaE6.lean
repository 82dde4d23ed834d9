import Derived.Test.YtikjomekhnkgcaaE5
/- The reference's vector times a matrix. -/
namespace Go.Proofs.Ytikjomekhnkgcaa
open Go.RowKit
attribute [local go_sem ↓] Go.wp_at_zero Go.wp_at_succ

set_option maxHeartbeats 4000000 in
theorem rvecmat_any (g : Nat) (c0 : Int) (r c : Nat) (A B : Option Addr) (n cp cq : Nat) (az xs : List Int) (w : World) (hM : MatOk r c n) (hA : Rd w (some g) A n az) (hX : Rd w (some g) B r xs) (ha : All64 az) (hx : All64 xs) (hU : Unr w g c0) (hc0 : 0 ≤ c0) (hc : c0 < 900000000) :
    Calls Try.prog 26 #[.pointer (some ⟨g, 0, none⟩), .slice B r cq, .agg #[.int .i64 r, .int .i64 c, .slice A n cp]] w (GotR w g c0 (rowI (vmV xs az r c) c) (cntI (vmV xs az r c) c)) := by
  obtain ⟨m1, m2, m3, m4, m5, m6⟩ := hM
  have hrc : (n : Int) = ((r * c : Nat) : Int) := by rw [m6, Int.natCast_mul]
  have hn : n ≤ 65536 := by omega
  have HRC := Lib.hid hrc
  have HA := Lib.hid hA
  have HX := Lib.hid hX
  have HU := Lib.hid hU
  have hul := hU.lt
  clear hA hX hU m5 m6 hrc
  go_enter Try.func26, Try.ntmps26
  go_wp2_with fail
  refine at_world fun W1 hW1 => ?_
  have HI : VSR w W1 g c0 r c A n cp (vmV xs az r c) 0 (.slice none 0 0) := by
    subst hW1
    exact ⟨World.ownsRow_nil _ _ _ _, gr_alloc (World.grownBy.refl _ _) _, by simpa [cntI] using HU.out.call ((Below.refl _ _).alloc (Nat.le_refl _) _), heap_alloc_new w _⟩
  clear hW1
  go_loopw [7, 8] (fun o i wr => ∃ k : Nat, k ≤ c ∧ i = .int .i64 k ∧ VSR w wr g c0 r c A n cp (vmV xs az r c) k o) (fun _ i _ => c - (intOf i).toNat)
  case atStart => exact ⟨0, Nat.zero_le _, rfl, HI⟩
  case round =>
    clear HI
    obtain ⟨k, hk, rfl, hS⟩ := hrel
    have hsz := hS.2.1.size
    have lP := lt_of_block hS.2.2.2
    have p0 := cell_of_row wr w.heap.size 0 _ _ _ hS.2.2.2
    have p1 := cell_of_row wr w.heap.size 1 _ _ _ hS.2.2.2
    simp only [List.getElem?_toArray, List.getElem?_cons_zero, List.getElem?_cons_succ] at p0 p1
    by_cases hlt : k < c
    · have hcb := cntI_bound (vmV xs az r c) k
      have HS := Lib.hid hS
      have rA := Lib.hid (HA.out.grown hS.2.1).anyu
      clear hS
      go_wp2_with fail
      obtain ⟨wo, hwo⟩ : ∃ wo : World, wo = wr := ⟨_, rfl⟩
      obtain rfl : wo = wr := hwo
      clear p0 p1
      go_loopw [9, 10] (fun o j wi => ∃ i : Nat, i ≤ r ∧ j = .int .i64 i ∧ OwnI wo.heap.size wi o (colL az c k i) ∧ Below wo.heap.size wo wi) (fun _ j _ => r - (intOf j).toNat)
      case atStart => exact ⟨0, Nat.zero_le _, rfl, World.ownsRow_nil _ _ _ _, Below.refl _ _⟩
      case round =>
        obtain ⟨i, hi, rfl, hO, hB⟩ := hrel
        have bM := hp_call HS.out.2.2.2 hB
        have q0 := cell_of_row wr w.heap.size 0 _ _ _ bM
        have q1 := cell_of_row wr w.heap.size 1 _ _ _ bM
        have q2 := cell_of_row wr w.heap.size 2 _ _ _ bM
        simp only [List.getElem?_toArray, List.getElem?_cons_zero, List.getElem?_cons_succ] at q0 q1 q2
        have zi := hB.size
        clear bM
        by_cases hir : i < r
        · have hik : i * c + k < n := by
            have h1 : (i + 1) * c ≤ r * c := Nat.mul_le_mul_right c (by omega)
            have h2 := HRC.out
            rw [Nat.succ_mul] at h1
            omega
          have AT := Lib.hid (fun W h => rat_any r i c k n cp A az W h hik hn)
          obtain ⟨x, hxv⟩ : ∃ x, x = az.getD (i * c + k) 0 := ⟨_, rfl⟩
          rw [← hxv] at AT
          have HXV := Lib.hid hxv
          have HO := Lib.hid hO
          clear hik hxv hO
          go_wp2_with (first
            | (go_at_call 53; refine (AT.out _ (rA.out.call hB)).mono ?_; rintro e y1 ⟨rfl, hb1⟩; have zy1 := hb1.size)
            | (at_builtin; refine app_i64 (B := wo.heap.size) (by omega) ((OwnI.low HO.out hb1).row (colL_len _ _ _ _)) (by omega) rfl rfl rfl _ rfl rfl ?_; intro v' y3 hown3 hb3))
          go_roundw
          case rel => exact ⟨i + 1, by omega, by simp, OwnI.of_row (n := i + 1) (by rw [colL_succ, List.map_append, ← HXV.out]; exact hown3) (colL_len _ _ _ _), (hB.trans (hb1.mono hB.size)).trans hb3⟩
          case measure => simp [intOf]; omega
        · obtain rfl : i = r := by omega
          obtain ⟨D, e, rfl, rD⟩ := hO.lenW (colL_len _ _ _ _)
          have DO := Lib.hid (fun W h1 h2 h3 => rdot_any g (c0 + cntI (vmV xs az i c) k) B D i cq e xs (colL az c k i) W (by omega) h1 h2 hx (colL_all ha _ _ _) h3 (by omega) (by omega))
          rw [col_dot] at DO
          have VR := Lib.hid (HS.out.2.2.1.call hB)
          have RX := Lib.hid (((HX.out.grown HS.out.2.1).anyu).call hB)
          have RD := Lib.hid rD
          clear hO rD
          go_wp2_with (first
            | (go_at_call 41; refine (DO.out _ RX.out RD.out VR.out).mono ?_; rintro e y2 ⟨rfl, hg2, hV2⟩; have zy2 := hg2.size)
            | (at_builtin; refine app_i64 (B := w.heap.size + 1) (by omega) (own_rowI (OwnI.grown (OwnI.low HS.out.1 hB) hg2 (by rintro _ ⟨⟩; omega))) (by omega) rfl rfl rfl _ rfl rfl ?_; intro v' y3 hown3 hb3))
          go_roundw
          case rel => exact ⟨k + 1, by omega, by simp, HS.out.next hB hg2 hul hV2 hown3 hb3⟩
          case measure => simp [intOf]; omega
    · obtain rfl : k = c := by omega
      go_wp2_with fail
      go_ret
      exact ⟨_, rfl, hS.1.base (by omega), hS.2.1, hS.2.2.1⟩
end Go.Proofs.Ytikjomekhnkgcaa
