import Derived.Test.YtikjomekhnkgcaaV1
/- each over a row of numbers; Axpy. -/
namespace Go.Proofs.Ytikjomekhnkgcaa
open Go.RowKit
attribute [local go_sem ↓] Go.wp_at_zero Go.wp_at_succ

/-- A row of the call's own, and how many of its parts were held. -/
def GotF (w : World) (U : Value) (u : Option Nat) (c : Int) (vs : List Int) (m : Int) (e : Ending) (w' : World) : Prop :=
  ∃ V, e = .returned V ∧ OwnF w.heap.size w' V vs ∧ w.grownBy w' u ∧ Unt w' U u (c + m)
def GotF2 (w : World) (U : Value) (u : Option Nat) (c : Int) (vs : List Int) (m : Int) (e : Ending) (w' : World) : Prop :=
  ∃ V, e = .returned (.tuple #[V, .int .i64 0]) ∧ OwnF w.heap.size w' V vs ∧ w.grownBy w' u ∧ Unt w' U u (c + m)
theorem own_next {B : Nat} {w : World} {V : Value} {v : Nat → Int} {k : Nat} (h : w.ownsRow B 28 1 V (k + 1) ((rowI v k).map iv ++ [.int .i64 (clampI (v k))])) : OwnF B w V (rowI v (k + 1)) := by
  unfold OwnF
  rw [rowI_length, rowI_succ, List.map_append]
  exact h
theorem own_row {B : Nat} {w : World} {V : Value} {v : Nat → Int} {k : Nat} (h : OwnF B w V (rowI v k)) : w.ownsRow B 28 1 V k ((rowI v k).map iv) := by
  unfold OwnF at h; rwa [rowI_length] at h
set_option maxHeartbeats 1000000 in
theorem each_axpy (n cp : Nat) (A : Option Addr) (xs : List Int) (v : Nat → Int) (U : Value) (u : Option Nat) (c : Int) (p1 p2 p3 : Value) (w : World) (hn : n < 1000000) (hr : Rd w u A n xs)
    (hU : Unt w U u c) (hc0 : 0 ≤ c) (hc : c + n < 1000000000) (hul : ∀ g, u = some g → g < w.heap.size)
    (HK : ∀ (i : Nat) (c1 : Int) (w1 : World), i < n → w.grownBy w1 u → Unt w1 U u c1 → 0 ≤ c1 → c1 < 1000000000 →
      Calls Try.prog 65 #[.int .i64 i, .int .i64 (xs.getD i 0), p1, p2, p3] w1 fun e w' => e = .returned (.int .i64 (clampI (v i))) ∧ w1.grownBy w' u ∧ Unt w' U u (c1 + ov (overI (v i)))) :
    Calls Try.prog 54 #[.slice A n cp, .func (.func 65) #[] #[p1, p2, p3]] w (GotF w U u c (rowI v n) (cntI v n)) := by
  have hmax : n ≤ 9223372036854775807 := by omega
  obtain ⟨i0, hi, hz0, hz1, hz2⟩ := info_parts infoFix
  go_enter Try.func54, Try.ntmps54
  go_wp2_with (at_make; refine wpList_make_own _ rfl _ _ 22 rfl w.heap.size 28 i0 (.int .i64 0) 1 Try.underlying22 hi hz0 hz1 .i64 .i64 n n rfl rfl rfl (by rw [hz2]; omega) (by unfold maxLen; omega) (Nat.le_refl _) ?_; intro w1 hown hgrow)
  go_loopw [5, 13] (fun o i wr => ∃ k : Nat, k ≤ n ∧ i = .int .i64 k ∧ OwnF w.heap.size wr o (rowI v k) ∧ w.grownBy wr u ∧ Unt wr U u (c + cntI v k)) (fun _ i _ => n - (intOf i).toNat)
  case atStart =>
    have hb : Below w.heap.size w w1 := ⟨hgrow.os, hgrow.tape, hgrow.output, hgrow.size, fun k hk => hgrow.block k hk (by simp)⟩
    exact ⟨0, Nat.zero_le _, rfl, hown, gr_below hb u, by simpa [cntI] using hU.call hb⟩
  case round =>
    clear hown hgrow
    obtain ⟨k, hk, rfl, hownk, hG, hV⟩ := hrel
    have hsz := hG.size
    have hcb := cntI_bound v k
    by_cases hlt : k < n
    · obtain ⟨b, off, rfl, hb, hbu, hcells⟩ := (hr.grown hG).2 (by omega)
      have hcx := hcells k hlt
      clear hcells
      go_wp2_with (first
        | (go_at_call 65; refine (HK k _ _ hlt hG hV (by omega) (by omega)).mono ?_; rintro e w2 ⟨rfl, hg2, hV2⟩)
        | (at_builtin; refine app_fix (by have := hg2.size; omega) (own_row (hownk.grown hg2 hul)) (by omega) rfl rfl rfl _ rfl rfl ?_; intro v' w3 hown3 hb3))
      go_roundw
      case rel => exact ⟨k + 1, by omega, by simp, own_next hown3, gr_low (gr_trans hG hg2) hb3, by rw [cntI, ← Int.add_assoc]; exact hV2.low hb3 hul⟩
      case measure => simp [intOf]; omega
    · obtain rfl : k = n := by omega
      go_wp2
      go_ret
      exact ⟨_, rfl, hownk, hG, hV⟩

/-- Vectors, one after another in a block. -/
def Sls (w : World) (b off m : Nat) (As : Nat → Option Addr) (ns cs : Nat → Nat) : Prop := ∀ j, j < m → w.cell? ⟨b, off + j, none⟩ = some (.slice (As j) (ns j) (cs j))
set_option maxHeartbeats 1000000 in
theorem fits_yes (b off m cp : Nat) (As : Nat → Option Addr) (ns cs : Nat → Nat) (w : World) (hm : m < 1000000) (hS : Sls w b off m As ns cs) (h : ∀ j, j < m → ns j ≤ 65536) :
    Calls Try.prog 48 #[.slice (some ⟨b, off, none⟩) m cp] w fun e w' => e = .returned (.bool true) ∧ w = w' := by
  have hmax : m ≤ 9223372036854775807 := by omega
  have HS := Lib.hid hS
  have HH := Lib.hid h
  clear hS h
  go_enter Try.func48, Try.ntmps48
  go_wp2
  go_loop [4, 7] (fun v i => ∃ k : Nat, k ≤ m ∧ i = .int .i64 k) (fun _ i => m - (intOf i).toNat)
  case atStart => exact ⟨0, Nat.zero_le _, rfl⟩
  case round =>
    obtain ⟨k, hk, rfl⟩ := hrel
    by_cases hlt : k < m
    · have hc := HS.out k hlt
      have hle := HH.out k hlt
      go_wp2
      go_round
      case rel => exact ⟨k + 1, by omega, by simp⟩
      case measure => simp [intOf]; omega
    · go_wp2
      go_ret
      exact ⟨rfl, rfl⟩
set_option maxHeartbeats 1000000 in
theorem fits_no (b off m cp j0 : Nat) (As : Nat → Option Addr) (ns cs : Nat → Nat) (w : World) (hm : m < 1000000) (hS : Sls w b off m As ns cs) (h : ∀ j, j < j0 → ns j ≤ 65536) (h0 : j0 < m) (h1 : 65536 < ns j0) :
    Calls Try.prog 48 #[.slice (some ⟨b, off, none⟩) m cp] w fun e w' => e = .returned (.bool false) ∧ w = w' := by
  have hmax : m ≤ 9223372036854775807 := by omega
  have HS := Lib.hid hS
  have HH := Lib.hid h
  clear hS h
  go_enter Try.func48, Try.ntmps48
  go_wp2
  go_loop [4, 7] (fun v i => ∃ k : Nat, k ≤ j0 ∧ i = .int .i64 k) (fun _ i => m - (intOf i).toNat)
  case atStart => exact ⟨0, Nat.zero_le _, rfl⟩
  case round =>
    obtain ⟨k, hk, rfl⟩ := hrel
    have hlm : k < m := by omega
    have hc := HS.out k hlm
    by_cases hlt : k < j0
    · have hle := HH.out k hlt
      go_wp2
      go_round
      case rel => exact ⟨k + 1, by omega, by simp⟩
      case measure => simp [intOf]; omega
    · obtain rfl : k = j0 := by omega
      go_wp2
      go_ret
      exact ⟨rfl, rfl⟩
theorem fits_empty (cp : Nat) (A : Option Addr) (w : World) : Calls Try.prog 48 #[.slice A 0 cp] w fun e w' => e = .returned (.bool true) ∧ w = w' := by
  go_enter Try.func48, Try.ntmps48
  go_wp2
  refine wp_loop_rounds 1 ?_
  rw [rounds_succ]
  go_wp2
  go_ret
  exact ⟨rfl, rfl⟩
set_option maxHeartbeats 1000000 in
theorem pair_any (A B : Option Addr) (n m cp cq : Nat) (w : World) (hn : n ≤ 65536) (hm : m ≤ 65536) :
    Calls Try.prog 51 #[.slice A n cp, .slice B m cq] w fun e w' => e = .returned (.int .i64 (if n = m then 0 else 40)) ∧ Below w.heap.size w w' := by
  have FI := Lib.hid (fun W hS => fits_yes w.heap.size 0 2 2 (fun j => if j = 0 then A else B) (fun j => if j = 0 then n else m) (fun j => if j = 0 then cp else cq) W (by omega) hS (by intro j _; split <;> omega))
  by_cases h : n = m
  · subst h
    rw [if_pos rfl]
    go_enter Try.func51, Try.ntmps51
    go_wp2_with (go_at_call 48; refine (FI.out _ ?_).mono ?_)
    · intro j hj
      match j, hj with
      | 0, _ => simp
      | 1, _ => simp
    · rintro e w1 ⟨rfl, rfl⟩
      go_wp2
      go_ret
      exact ⟨rfl, (by repeat (first | (with_reducible exact Below.refl _ _) | (with_reducible assumption) | (with_reducible refine Below.drew ?_) | (with_reducible refine Below.alloc ?_ ?_ _) | (with_reducible refine Below.setCell ?_ ?_ _) | (with_reducible refine Below.trans ?_ (Below.mono hb ?_)) | (with_reducible refine Below.trans ?_ (Below.mono hb1 ?_)) | (with_reducible refine Below.trans ?_ (Below.mono hb2 ?_)) | (with_reducible refine Below.trans ?_ (Below.mono hb3 ?_)) | (with_reducible refine Below.trans ?_ (Below.mono hb4 ?_)) | (with_reducible refine Below.trans ?_ (Below.mono hb5 ?_)) | (with_reducible refine Below.trans ?_ (Below.mono hb6 ?_)) | (with_reducible refine Below.trans ?_ (Below.mono hb7 ?_)) | (with_reducible refine Below.trans ?_ (Below.mono hb8 ?_)) | (with_reducible refine Below.trans ?_ (Below.mono hb9 ?_)) | (focus (first | omega | (simp; done) | (simp; omega))) | exact hB))⟩
  · rw [if_neg h]
    have hne : ¬ (n : Int) = m := by omega
    clear h
    go_enter Try.func51, Try.ntmps51
    go_wp2_with (go_at_call 48; refine (FI.out _ ?_).mono ?_)
    · intro j hj
      match j, hj with
      | 0, _ => simp
      | 1, _ => simp
    · rintro e w1 ⟨rfl, rfl⟩
      go_wp2
      go_ret
      exact ⟨rfl, (by repeat (first | (with_reducible exact Below.refl _ _) | (with_reducible assumption) | (with_reducible refine Below.drew ?_) | (with_reducible refine Below.alloc ?_ ?_ _) | (with_reducible refine Below.setCell ?_ ?_ _) | (with_reducible refine Below.trans ?_ (Below.mono hb ?_)) | (with_reducible refine Below.trans ?_ (Below.mono hb1 ?_)) | (with_reducible refine Below.trans ?_ (Below.mono hb2 ?_)) | (with_reducible refine Below.trans ?_ (Below.mono hb3 ?_)) | (with_reducible refine Below.trans ?_ (Below.mono hb4 ?_)) | (with_reducible refine Below.trans ?_ (Below.mono hb5 ?_)) | (with_reducible refine Below.trans ?_ (Below.mono hb6 ?_)) | (with_reducible refine Below.trans ?_ (Below.mono hb7 ?_)) | (with_reducible refine Below.trans ?_ (Below.mono hb8 ?_)) | (with_reducible refine Below.trans ?_ (Below.mono hb9 ?_)) | (focus (first | omega | (simp; done) | (simp; omega))) | exact hB))⟩
end Go.Proofs.Ytikjomekhnkgcaa
