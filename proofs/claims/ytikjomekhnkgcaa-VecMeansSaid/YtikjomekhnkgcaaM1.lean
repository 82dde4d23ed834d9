import Derived.Test.YtikjomekhnkgcaaD6
import Derived.Test.YtikjomekhnkgcaaE2
import Derived.Test.YtikjomekhnkgcaaRowL
/- The mean of vectors: the code's. -/
namespace Go.Proofs.Ytikjomekhnkgcaa
open Go.RowKit
attribute [local go_sem ↓] Go.wp_at_zero Go.wp_at_succ

/-! ### rows of as many parts -/
/-- The i-th parts of the first m rows. -/
def colZ (Z : Nat → List Int) (i m : Nat) : List Int := (List.range m).map fun k => (Z k).getD i 0
theorem colZ_len (Z : Nat → List Int) (i m : Nat) : (colZ Z i m).length = m := by simp [colZ]
theorem colZ_succ (Z : Nat → List Int) (i m : Nat) : colZ Z i (m + 1) = colZ Z i m ++ [(Z m).getD i 0] := by simp [colZ, List.range_succ]
theorem colZ_get (Z : Nat → List Int) (i : Nat) {m k : Nat} (h : k < m) : (colZ Z i m).getD k 0 = (Z k).getD i 0 := by
  simp [colZ, List.getD_eq_getElem?_getD, List.getElem?_map, List.getElem?_range h]
theorem colZ_all {Z : Nat → List Int} {m : Nat} (ha : ∀ k, k < m → All64 (Z k)) (i : Nat) : All64 (colZ Z i m) := by
  intro k
  rcases Nat.lt_or_ge k m with h | h
  · rw [colZ_get _ _ h]; exact ha k h i
  · have e : (colZ Z i m).getD k 0 = 0 := by rw [List.getD_eq_getElem?_getD, List.getElem?_eq_none (by rw [colZ_len]; exact h)]; rfl
    rw [e]; unfold In64; omega
/-- The mean of the i-th parts. -/
def mnV (Z : Nat → List Int) (m : Nat) (i : Nat) : Int := quoI (totI (colZ Z i m) m) m
/-- m rows of n parts each. -/
def RL (w : World) (u : Option Nat) (A : Option Addr) (m n : Nat) (Ar : Nat → Option Addr) (Cr : Nat → Nat) (Zr : Nat → List Int) : Prop :=
  (0 < m → ∃ b off, A = some ⟨b, off, none⟩ ∧ b < w.heap.size ∧ some b ≠ u ∧ ∀ k, k < m → w.cell? ⟨b, off + k, none⟩ = some (.slice (Ar k) n (Cr k))) ∧ ∀ k, k < m → Rd w u (Ar k) n (Zr k)
section
variable {w w' : World} {u : Option Nat} {A : Option Addr} {m n : Nat} {Ar : Nat → Option Addr} {Cr : Nat → Nat} {Zr : Nat → List Int}
theorem RL.grown (h : RL w u A m n Ar Cr Zr) (hg : w.grownBy w' u) : RL w' u A m n Ar Cr Zr :=
  ⟨fun hm => by
    obtain ⟨b, off, e, hb, hne, hc⟩ := h.1 hm
    exact ⟨b, off, e, Nat.lt_of_lt_of_le hb hg.size, hne, fun k hk => (gr_cell hg hb hne).trans (hc k hk)⟩, fun k hk => (h.2 k hk).grown hg⟩
theorem RL.call (h : RL w u A m n Ar Cr Zr) (hb : Below w.heap.size w w') : RL w' u A m n Ar Cr Zr := h.grown (gr_below hb u)
theorem RL.anyu (h : RL w u A m n Ar Cr Zr) : RL w none A m n Ar Cr Zr :=
  ⟨fun hm => by
    obtain ⟨b, off, e, hb, hne, hc⟩ := h.1 hm
    exact ⟨b, off, e, hb, by simp, hc⟩, fun k hk => (h.2 k hk).anyu⟩
theorem RdL.rl {L : Nat} {Lr : Nat → Nat} (h : RdL w A L Ar Lr Cr Zr) (hl : ∀ k, k < L → Lr k = n) (hu : ∀ g, u = some g → w.heap.size ≤ g) : RL w u A L n Ar Cr Zr :=
  ⟨fun hm => by
    obtain ⟨b, off, e, hb, hc⟩ := h.1 hm
    exact ⟨b, off, e, hb, fun e => by have := hu b e.symm; omega, fun k hk => by rw [hc k hk, hl k hk]⟩, fun k hk => by
    have := (h.2 k hk).1
    rw [hl k hk] at this
    exact this.unit hu⟩
end
theorem own_rdm {B n : Nat} {w : World} {V : Value} {xs : List Int} (h : OwnF B w V xs) (hl : xs.length = n) : ∃ A c, V = .slice A n c ∧ Rd w none A n xs := by
  subst hl
  obtain ⟨A, c, e, hr⟩ := own_apart (S := fun _ => False) h fun g _ hs => hs
  exact ⟨A, c, e, hr.none_⟩
/-- One part of one row. -/
theorem colp_any (B i j n cp : Nat) (A : Option Addr) (xs : List Int) (w : World) (hn : n < 1000000) (hb : w.cell? ⟨B, 0, none⟩ = some (.int .i64 i)) (hi : i < n) (hA : Rd w none A n xs) :
    Calls Try.prog 82 #[.int .i64 j, .slice A n cp, .pointer (some ⟨B, 0, none⟩)] w fun e w' => e = .returned (.int .i64 (xs.getD i 0)) ∧ w = w' := by
  obtain ⟨b, off, rfl, hlt, _, hc⟩ := hA.2 (by omega)
  have hcx := hc i hi
  have ia : (0 : Int) ≤ (i : Int) := by omega
  have ib : (i : Int) < (n : Int) := by omega
  clear hc
  go_enter Try.func82, Try.ntmps82
  go_wp2_with fail
  go_ret
  exact ⟨rfl, rfl⟩
theorem colF_row {B : Nat} {w : World} {V : Value} {Z : Nat → List Int} {i k : Nat} (h : OwnF B w V (colZ Z i k)) : w.ownsRow B 28 1 V k ((colZ Z i k).map iv) := by
  unfold OwnF at h; rwa [colZ_len] at h
theorem colF_next {B : Nat} {w : World} {V : Value} {Z : Nat → List Int} {i k : Nat} (h : w.ownsRow B 28 1 V (k + 1) ((colZ Z i k).map iv ++ [.int .i64 ((Z k).getD i 0)])) : OwnF B w V (colZ Z i (k + 1)) := by
  unfold OwnF
  rw [colZ_len, colZ_succ, List.map_append]
  exact h
set_option maxHeartbeats 1000000 in
theorem each_col (m n cp i B : Nat) (A : Option Addr) (Ar : Nat → Option Addr) (Cr : Nat → Nat) (Zr : Nat → List Int) (w : World) (hm : m < 1000000) (hn : n < 1000000) (hL : RL w none A m n Ar Cr Zr) (hi : i < n)
    (hB : w.cell? ⟨B, 0, none⟩ = some (.int .i64 i)) :
    Calls Try.prog 81 #[.slice A m cp, .func (.func 82) #[] #[.pointer (some ⟨B, 0, none⟩)]] w fun e w' => ∃ V, e = .returned V ∧ OwnF w.heap.size w' V (colZ Zr i m) ∧ Below w.heap.size w w' := by
  have hmax : m ≤ 9223372036854775807 := by omega
  have lB := World.block_lt_of_cell? w _ hB
  obtain ⟨i0, jh, hz0, hz1, hz2⟩ := info_parts infoFix
  go_enter Try.func81, Try.ntmps81
  go_wp2_with (at_make; refine wpList_make_own _ rfl _ _ 22 rfl w.heap.size 28 i0 (.int .i64 0) 1 Try.underlying22 jh hz0 hz1 .i64 .i64 m m rfl rfl rfl (by rw [hz2]; omega) (by unfold maxLen; omega) (Nat.le_refl _) ?_; intro w1 hown hgrow)
  go_loopw [5, 13] (fun o i' wr => ∃ k : Nat, k ≤ m ∧ i' = .int .i64 k ∧ OwnF w.heap.size wr o (colZ Zr i k) ∧ Below w.heap.size w wr) (fun _ i' _ => m - (intOf i').toNat)
  case atStart =>
    have hb : Below w.heap.size w w1 := ⟨hgrow.os, hgrow.tape, hgrow.output, hgrow.size, fun k hk => hgrow.block k hk (by simp)⟩
    exact ⟨0, Nat.zero_le _, rfl, hown, hb⟩
  case round =>
    clear hown hgrow
    obtain ⟨k, hk, rfl, hownk, hG⟩ := hrel
    have hsz := hG.size
    by_cases hlt : k < m
    · have hLk := hL.call hG
      obtain ⟨b, off, rfl, hb, _, hcells⟩ := hLk.1 (by omega)
      have hcx := hcells k hlt
      have rk := hLk.2 k hlt
      have cB : wr.cell? ⟨B, 0, none⟩ = some (.int .i64 i) := (hG.cell (p := ⟨B, 0, none⟩) lB).trans hB
      clear hcells hLk
      go_wp2_with (first
        | (go_at_call 82; refine (colp_any B i k n _ _ _ _ hn cB hi rk).mono ?_; rintro e w2 ⟨rfl, rfl⟩)
        | (at_builtin; refine app_fix (B := w.heap.size) hsz (colF_row hownk) (by omega) rfl rfl rfl _ rfl rfl ?_; intro v' w3 hown3 hb3))
      go_roundw
      case rel => exact ⟨k + 1, by omega, by simp, colF_next hown3, hG.trans hb3⟩
      case measure => simp [intOf]; omega
    · obtain rfl : k = m := by omega
      go_wp2
      go_ret
      exact ⟨_, rfl, hownk, hG⟩
set_option maxHeartbeats 1000000 in
theorem mns1_any (i m n cp B1 B2 : Nat) (x c : Int) (U : Value) (u : Option Nat) (A : Option Addr) (Ar : Nat → Option Addr) (Cr : Nat → Nat) (Zr : Nat → List Int) (w : World) (hm0 : 0 < m) (hm : m ≤ 64) (hn : n < 1000000) (hi : i < n)
    (hL : RL w none A m n Ar Cr Zr) (hz : ∀ k, k < m → All64 (Zr k)) (c1 : w.cell? ⟨B1, 0, none⟩ = some (.slice A m cp)) (c2 : w.cell? ⟨B2, 0, none⟩ = some U) (hU : Unt w U u c) (hc0 : 0 ≤ c) (hc : c < 1000000000) :
    Calls Try.prog 80 #[.int .i64 i, .int .i64 x, .pointer (some ⟨B1, 0, none⟩), .pointer (some ⟨B2, 0, none⟩)] w fun e w' =>
      e = .returned (.int .i64 (clampI (mnV Zr m i))) ∧ w.grownBy w' u ∧ Unt w' U u (c + ov (overI (mnV Zr m i))) := by
  have hmf : ∀ (fn : Fn) (first cap : Array Value) (w : World), (Instr.makeFunc fn first cap).run Try.prog w = .ok (.func fn first cap) w := fun _ _ _ _ => rfl
  have EC := Lib.hid (fun W h1 h2 => each_col m n cp i w.heap.size A Ar Cr Zr W (by omega) hn h1 hi h2)
  have MU := Lib.hid (fun W D e h1 h2 => vmean_any U u c D m e (colZ Zr i m) W (by omega) hm0 h1 (colZ_all hz i) h2 hc0 hc)
  have l1 := World.block_lt_of_cell? w _ c1
  have l2 := World.block_lt_of_cell? w _ c2
  unfold mnV
  generalize quoI (totI (colZ Zr i m) m) m = q at *
  obtain ⟨p, rfl⟩ := hU.ptr
  have HU := Lib.hid hU
  have HL := Lib.hid hL
  clear hU hL
  go_enter Try.func80, Try.ntmps80
  go_wp2_with (first
    | (go_at_call 81; refine (EC.out _ (HL.out.call (by repeat (first | (with_reducible exact Below.refl _ _) | (with_reducible assumption) | (with_reducible refine Below.drew ?_) | (with_reducible refine Below.alloc ?_ ?_ _) | (with_reducible refine Below.setCell ?_ ?_ _) | (with_reducible refine Below.trans ?_ (Below.mono hb ?_)) | (with_reducible refine Below.trans ?_ (Below.mono hb1 ?_)) | (with_reducible refine Below.trans ?_ (Below.mono hb2 ?_)) | (with_reducible refine Below.trans ?_ (Below.mono hb3 ?_)) | (with_reducible refine Below.trans ?_ (Below.mono hb4 ?_)) | (with_reducible refine Below.trans ?_ (Below.mono hb5 ?_)) | (with_reducible refine Below.trans ?_ (Below.mono hb6 ?_)) | (with_reducible refine Below.trans ?_ (Below.mono hb7 ?_)) | (with_reducible refine Below.trans ?_ (Below.mono hb8 ?_)) | (with_reducible refine Below.trans ?_ (Below.mono hb9 ?_)) | (focus (first | omega | (simp; done) | (simp; omega))) | exact hB))) (cell_of_row _ _ 0 _ _ _ (newest_at _ _ (by simp)))).mono ?_; rintro e w2 ⟨V, rfl, hO, hb2⟩; have hB : Below w.heap.size w w2 := (by repeat (first | (with_reducible exact Below.refl _ _) | (with_reducible assumption) | (with_reducible refine Below.drew ?_) | (with_reducible refine Below.alloc ?_ ?_ _) | (with_reducible refine Below.setCell ?_ ?_ _) | (with_reducible refine Below.trans ?_ (Below.mono hb ?_)) | (with_reducible refine Below.trans ?_ (Below.mono hb1 ?_)) | (with_reducible refine Below.trans ?_ (Below.mono hb2 ?_)) | (with_reducible refine Below.trans ?_ (Below.mono hb3 ?_)) | (with_reducible refine Below.trans ?_ (Below.mono hb4 ?_)) | (with_reducible refine Below.trans ?_ (Below.mono hb5 ?_)) | (with_reducible refine Below.trans ?_ (Below.mono hb6 ?_)) | (with_reducible refine Below.trans ?_ (Below.mono hb7 ?_)) | (with_reducible refine Below.trans ?_ (Below.mono hb8 ?_)) | (with_reducible refine Below.trans ?_ (Below.mono hb9 ?_)) | (focus (first | omega | (simp; done) | (simp; omega))) | exact hB)); have c2' := (hB.cell (p := ⟨B2, 0, none⟩) l2).trans c2; obtain ⟨D, e', rfl, rD⟩ := own_rdm hO (colZ_len _ _ _); clear hO hb2)
    | (go_at_call 40; refine (MU.out _ D e' rD (HU.out.call hB)).mono ?_; rintro e w4 ⟨rfl, hg, hV⟩))
  go_ret
  exact ⟨rfl, gr_trans (gr_below hB u) hg, hV⟩
set_option maxHeartbeats 1000000 in
theorem each_mns (n cp : Nat) (A : Option Addr) (xs : List Int) (v : Nat → Int) (U : Value) (u : Option Nat) (c : Int) (p1 p2 : Value) (w : World) (hn : n < 1000000) (hr : Rd w u A n xs)
    (hU : Unt w U u c) (hc0 : 0 ≤ c) (hc : c + n < 1000000000) (hul : ∀ g, u = some g → g < w.heap.size)
    (HK : ∀ (i : Nat) (c1 : Int) (w1 : World), i < n → w.grownBy w1 u → Unt w1 U u c1 → 0 ≤ c1 → c1 < 1000000000 →
      Calls Try.prog 80 #[.int .i64 i, .int .i64 (xs.getD i 0), p1, p2] w1 fun e w' => e = .returned (.int .i64 (clampI (v i))) ∧ w1.grownBy w' u ∧ Unt w' U u (c1 + ov (overI (v i)))) :
    Calls Try.prog 54 #[.slice A n cp, .func (.func 80) #[] #[p1, p2]] w (GotF w U u c (rowI v n) (cntI v n)) := by
  have hmax : n ≤ 9223372036854775807 := by omega
  obtain ⟨i0, hi, hz0, hz1, hz2⟩ := info_parts infoFix
  go_enter Try.func54, Try.ntmps54
  go_wp2_with (at_make; refine wpList_make_own _ rfl _ _ 22 rfl w.heap.size 28 i0 (.int .i64 0) 1 Try.underlying22 hi hz0 hz1 .i64 .i64 n n rfl rfl rfl (by rw [hz2]; omega) (by unfold maxLen; omega) (Nat.le_refl _) ?_; intro w1 hown hgrow)
  go_loopw [5, 13] (fun o i wr => ∃ k : Nat, k ≤ n ∧ i = .int .i64 k ∧ OwnF w.heap.size wr o (rowI v k) ∧ w.grownBy wr u ∧ Unt wr U u (c + cntI v k)) (fun _ i _ => n - (intOf i).toNat)
  case atStart =>
    have hb : Below w.heap.size w w1 := ⟨hgrow.os, hgrow.tape, hgrow.output, hgrow.size, fun k hk => hgrow.block k hk (by simp)⟩
    exact ⟨0, Nat.zero_le _, rfl, hown, gr_below hb u, by simpa [cntI] using hU.call hb⟩
  case round =>
    clear hown hgrow
    obtain ⟨k, hk, rfl, hownk, hG, hV⟩ := hrel
    have hsz := hG.size
    have hcb := cntI_bound v k
    by_cases hlt : k < n
    · obtain ⟨b, off, rfl, hb, hbu, hcells⟩ := (hr.grown hG).2 (by omega)
      have hcx := hcells k hlt
      clear hcells
      go_wp2_with (first
        | (go_at_call 80; refine (HK k _ _ hlt hG hV (by omega) (by omega)).mono ?_; rintro e w2 ⟨rfl, hg2, hV2⟩)
        | (at_builtin; refine app_fix (by have := hg2.size; omega) (own_row (hownk.grown hg2 hul)) (by omega) rfl rfl rfl _ rfl rfl ?_; intro v' w3 hown3 hb3))
      go_roundw
      case rel => exact ⟨k + 1, by omega, by simp, own_next hown3, gr_low (gr_trans hG hg2) hb3, by rw [cntI, ← Int.add_assoc]; exact hV2.low hb3 hul⟩
      case measure => simp [intOf]; omega
    · obtain rfl : k = n := by omega
      go_wp2
      go_ret
      exact ⟨_, rfl, hownk, hG, hV⟩
set_option maxHeartbeats 2000000 in
theorem vmeans_any (b off m n cp : Nat) (U : Value) (u : Option Nat) (c : Int) (Ar : Nat → Option Addr) (Cr : Nat → Nat) (Zr : Nat → List Int) (w : World) (hm0 : 0 < m) (hm : m ≤ 64) (hn : n ≤ 65536)
    (hL : RL w u (some ⟨b, off, none⟩) m n Ar Cr Zr) (hz : ∀ k, k < m → All64 (Zr k)) (hU : Unt w U u c) (hc0 : 0 ≤ c) (hc : c < 900000000) :
    Calls Try.prog 44 #[U, .slice (some ⟨b, off, none⟩) m cp] w (GotF2 w U u c (rowI (mnV Zr m) n) (cntI (mnV Zr m) n)) := by
  have hmf : ∀ (fn : Fn) (first cap : Array Value) (w : World), (Instr.makeFunc fn first cap).run Try.prog w = .ok (.func fn first cap) w := fun _ _ _ _ => rfl
  have hul := hU.lt
  have m64 : ¬ (64 : Int) < (m : Int) := by omega
  have m0 : ¬ (m : Int) = 0 := by omega
  have EA := Lib.hid (fun A cp' xs p1 p2 W hr hU' hl HK => each_mns n cp' A xs (mnV Zr m) U u c p1 p2 W (by omega) hr hU' hc0 (by omega) hl HK)
  have HL := Lib.hid hL
  have HU := Lib.hid hU
  have hge0 := (hL.1 hm0)
  obtain ⟨b', off', e', hbl, _, hcells⟩ := hge0
  injection e' with e'
  injection e' with e1 e2 _
  subst e1 e2
  have FI := Lib.hid (fun W hS => fits_yes b off m cp Ar (fun _ => n) Cr W (by omega) hS (fun j _ => hn))
  have HC := Lib.hid hcells
  obtain ⟨p, rfl⟩ := hU.ptr
  clear hL hU hcells hc hc0
  go_enter Try.func44, Try.ntmps44
  go_upto_region 5 with (go_at_call 48; refine (FI.out _ (fun j hj => (Below.cell (B := w.heap.size) (w := w) (by repeat (first | (with_reducible exact Below.refl _ _) | (with_reducible assumption) | (with_reducible refine Below.drew ?_) | (with_reducible refine Below.alloc ?_ ?_ _) | (with_reducible refine Below.setCell ?_ ?_ _) | (with_reducible refine Below.trans ?_ (Below.mono hb ?_)) | (with_reducible refine Below.trans ?_ (Below.mono hb1 ?_)) | (with_reducible refine Below.trans ?_ (Below.mono hb2 ?_)) | (with_reducible refine Below.trans ?_ (Below.mono hb3 ?_)) | (with_reducible refine Below.trans ?_ (Below.mono hb4 ?_)) | (with_reducible refine Below.trans ?_ (Below.mono hb5 ?_)) | (with_reducible refine Below.trans ?_ (Below.mono hb6 ?_)) | (with_reducible refine Below.trans ?_ (Below.mono hb7 ?_)) | (with_reducible refine Below.trans ?_ (Below.mono hb8 ?_)) | (with_reducible refine Below.trans ?_ (Below.mono hb9 ?_)) | (focus (first | omega | (simp; done) | (simp; omega))) | exact hB)) (p := ⟨b, off + j, none⟩) hbl).trans (HC.out j hj))).mono ?_; rintro e w1 ⟨rfl, rfl⟩)
  refine at_world fun W1 hW1 => ?_
  have bW : Below w.heap.size w W1 := by subst hW1; exact (by repeat (first | (with_reducible exact Below.refl _ _) | (with_reducible assumption) | (with_reducible refine Below.drew ?_) | (with_reducible refine Below.alloc ?_ ?_ _) | (with_reducible refine Below.setCell ?_ ?_ _) | (with_reducible refine Below.trans ?_ (Below.mono hb ?_)) | (with_reducible refine Below.trans ?_ (Below.mono hb1 ?_)) | (with_reducible refine Below.trans ?_ (Below.mono hb2 ?_)) | (with_reducible refine Below.trans ?_ (Below.mono hb3 ?_)) | (with_reducible refine Below.trans ?_ (Below.mono hb4 ?_)) | (with_reducible refine Below.trans ?_ (Below.mono hb5 ?_)) | (with_reducible refine Below.trans ?_ (Below.mono hb6 ?_)) | (with_reducible refine Below.trans ?_ (Below.mono hb7 ?_)) | (with_reducible refine Below.trans ?_ (Below.mono hb8 ?_)) | (with_reducible refine Below.trans ?_ (Below.mono hb9 ?_)) | (focus (first | omega | (simp; done) | (simp; omega))) | exact hB))
  have q1 : W1.cell? ⟨w.heap.size, 0, none⟩ = some (.pointer p) := by subst hW1; exact cell_of_row _ w.heap.size 0 _ _ _ (hp_alloc (heap_alloc_new w _) _)
  have q2 : W1.cell? ⟨w.heap.size + 1, 0, none⟩ = some (.slice (some ⟨b, off, none⟩) m cp) := by subst hW1; exact cell_of_row _ (w.heap.size + 1) 0 _ _ _ (newest_at _ _ (by simp))
  have lW : w.heap.size + 1 < W1.heap.size := World.block_lt_of_cell? W1 _ q2
  clear hW1
  have hL1 := HL.out.call bW
  have HL1 := Lib.hid hL1
  have hc1 : ∀ k, k < m → W1.cell? ⟨b, off + k, none⟩ = some (.slice (Ar k) n (Cr k)) := fun k hk => (bW.cell (p := ⟨b, off + k, none⟩) hbl).trans (HC.out k hk)
  have x0 := hc1 0 hm0
  simp only [Nat.add_zero] at x0
  clear hL1
  go_upto_region 6 with fail
  go_loopw [21] (fun i wr => ∃ k : Nat, k ≤ m ∧ i = .int .i64 k ∧ wr = W1) (fun i _ => m - (intOf i).toNat)
  case atStart => exact ⟨0, Nat.zero_le _, rfl, rfl⟩
  case round =>
    obtain ⟨k, hk, rfl, rfl⟩ := hrel
    by_cases hlt : k < m
    · have x1 := hc1 k hlt
      have ia : (0 : Int) ≤ (k : Int) := by omega
      have ib : (k : Int) < (m : Int) := by omega
      clear hc1
      go_wp2_with fail
      go_roundw
      case rel => exact ⟨k + 1, by omega, by simp⟩
      case measure => simp [intOf]; omega
    · clear hc1
      go_wp2_with (go_at_call 54; refine (EA.out (Ar 0) (Cr 0) (Zr 0) _ _ _ (HL1.out.2 0 hm0) (HU.out.call bW) (fun g hg => by have := hul g hg; omega) ?_).mono ?_)
      · intro i c1 wq hi hG hV h0 h1
        exact mns1_any i m n cp (w.heap.size + 1) w.heap.size _ c1 _ u _ Ar Cr Zr wq hm0 hm (by omega) hi (HL1.out.grown hG).anyu hz ((gr_cell hG (by omega) (fun e => by have := hul _ e.symm; omega)).trans q2) ((gr_cell hG (by omega) (fun e => by have := hul _ e.symm; omega)).trans q1) hV h0 h1
      · rintro e w2 ⟨V, rfl, hO, hG, hV⟩
        go_wp2
        go_ret2
        exact ⟨V, rfl, hO.base (by omega), gr_trans (gr_below bW u) hG, hV⟩

/-! ### what is refused -/
theorem fits_none (A : Option Addr) (cp : Nat) (w : World) :
    Calls Try.prog 48 #[.slice A 0 cp] w fun e w' => e = .returned (.bool true) ∧ w = w' := by
  go_enter Try.func48, Try.ntmps48
  go_wp2_with fail
  refine wp_loop_rounds 1 ?_
  rw [rounds_succ]
  go_wp2_with fail
  go_ret
  exact ⟨rfl, rfl⟩
theorem vmeans_big (m cp : Nat) (A : Option Addr) (U : Value) (w : World) (hm : 64 < m) (hp : ∃ p, U = .pointer p) :
    Calls Try.prog 44 #[U, .slice A m cp] w fun e w' => e = .returned (.tuple #[.slice none 0 0, .int .i64 3]) ∧ Below w.heap.size w w' := by
  have m64 : (64 : Int) < (m : Int) := by omega
  obtain ⟨p, rfl⟩ := hp
  go_enter Try.func44, Try.ntmps44
  go_wp2_with fail
  go_ret2
  exact ⟨rfl, (by repeat (first | (with_reducible exact Below.refl _ _) | (with_reducible assumption) | (with_reducible refine Below.drew ?_) | (with_reducible refine Below.alloc ?_ ?_ _) | (with_reducible refine Below.setCell ?_ ?_ _) | (with_reducible refine Below.trans ?_ (Below.mono hb ?_)) | (with_reducible refine Below.trans ?_ (Below.mono hb1 ?_)) | (with_reducible refine Below.trans ?_ (Below.mono hb2 ?_)) | (with_reducible refine Below.trans ?_ (Below.mono hb3 ?_)) | (with_reducible refine Below.trans ?_ (Below.mono hb4 ?_)) | (with_reducible refine Below.trans ?_ (Below.mono hb5 ?_)) | (with_reducible refine Below.trans ?_ (Below.mono hb6 ?_)) | (with_reducible refine Below.trans ?_ (Below.mono hb7 ?_)) | (with_reducible refine Below.trans ?_ (Below.mono hb8 ?_)) | (with_reducible refine Below.trans ?_ (Below.mono hb9 ?_)) | (focus (first | omega | (simp; done) | (simp; omega))) | exact hB))⟩
theorem vmeans_none (cp : Nat) (A : Option Addr) (U : Value) (w : World) (hp : ∃ p, U = .pointer p) :
    Calls Try.prog 44 #[U, .slice A 0 cp] w fun e w' => e = .returned (.tuple #[.slice none 0 0, .int .i64 40]) ∧ Below w.heap.size w w' := by
  obtain ⟨p, rfl⟩ := hp
  have FI := Lib.hid (fun W => fits_none A cp W)
  go_enter Try.func44, Try.ntmps44
  go_wp2_with (go_at_call 48; refine (FI.out _).mono ?_; rintro e w1 ⟨rfl, rfl⟩)
  go_ret2
  exact ⟨rfl, (by repeat (first | (with_reducible exact Below.refl _ _) | (with_reducible assumption) | (with_reducible refine Below.drew ?_) | (with_reducible refine Below.alloc ?_ ?_ _) | (with_reducible refine Below.setCell ?_ ?_ _) | (with_reducible refine Below.trans ?_ (Below.mono hb ?_)) | (with_reducible refine Below.trans ?_ (Below.mono hb1 ?_)) | (with_reducible refine Below.trans ?_ (Below.mono hb2 ?_)) | (with_reducible refine Below.trans ?_ (Below.mono hb3 ?_)) | (with_reducible refine Below.trans ?_ (Below.mono hb4 ?_)) | (with_reducible refine Below.trans ?_ (Below.mono hb5 ?_)) | (with_reducible refine Below.trans ?_ (Below.mono hb6 ?_)) | (with_reducible refine Below.trans ?_ (Below.mono hb7 ?_)) | (with_reducible refine Below.trans ?_ (Below.mono hb8 ?_)) | (with_reducible refine Below.trans ?_ (Below.mono hb9 ?_)) | (focus (first | omega | (simp; done) | (simp; omega))) | exact hB))⟩
set_option maxHeartbeats 2000000 in
theorem vmeans_shape (b off m cp k0 : Nat) (U : Value) (Ar : Nat → Option Addr) (Lr Cr : Nat → Nat) (w : World) (hm : m ≤ 64) (hl : ∀ k, k < m → Lr k ≤ 65536) (hbl : b < w.heap.size)
    (hS : Sls w b off m Ar Lr Cr) (h0 : k0 < m) (hk0 : ¬ Lr k0 = Lr 0) (hk1 : ∀ k, k < k0 → Lr k = Lr 0) (hp : ∃ p, U = .pointer p) :
    Calls Try.prog 44 #[U, .slice (some ⟨b, off, none⟩) m cp] w fun e w' => e = .returned (.tuple #[.slice none 0 0, .int .i64 40]) ∧ Below w.heap.size w w' := by
  obtain ⟨p, rfl⟩ := hp
  have m64 : ¬ (64 : Int) < (m : Int) := by omega
  have m0 : ¬ (m : Int) = 0 := by omega
  have FI := Lib.hid (fun W h => fits_yes b off m cp Ar Lr Cr W (by omega) h hl)
  have HS := Lib.hid hS
  have K1 := Lib.hid hk1
  have K0 : ¬ ((Lr k0 : Nat) : Int) = ((Lr 0 : Nat) : Int) := by omega
  clear hS hk1 hl
  go_enter Try.func44, Try.ntmps44
  go_upto_region 5 with (go_at_call 48; refine (FI.out _ (fun j hj => (Below.cell (B := w.heap.size) (w := w) (by repeat (first | (with_reducible exact Below.refl _ _) | (with_reducible assumption) | (with_reducible refine Below.drew ?_) | (with_reducible refine Below.alloc ?_ ?_ _) | (with_reducible refine Below.setCell ?_ ?_ _) | (with_reducible refine Below.trans ?_ (Below.mono hb ?_)) | (with_reducible refine Below.trans ?_ (Below.mono hb1 ?_)) | (with_reducible refine Below.trans ?_ (Below.mono hb2 ?_)) | (with_reducible refine Below.trans ?_ (Below.mono hb3 ?_)) | (with_reducible refine Below.trans ?_ (Below.mono hb4 ?_)) | (with_reducible refine Below.trans ?_ (Below.mono hb5 ?_)) | (with_reducible refine Below.trans ?_ (Below.mono hb6 ?_)) | (with_reducible refine Below.trans ?_ (Below.mono hb7 ?_)) | (with_reducible refine Below.trans ?_ (Below.mono hb8 ?_)) | (with_reducible refine Below.trans ?_ (Below.mono hb9 ?_)) | (focus (first | omega | (simp; done) | (simp; omega))) | exact hB)) (p := ⟨b, off + j, none⟩) hbl).trans (HS.out j hj))).mono ?_; rintro e w1 ⟨rfl, rfl⟩)
  refine at_world fun W1 hW1 => ?_
  have bW : Below w.heap.size w W1 := by subst hW1; exact (by repeat (first | (with_reducible exact Below.refl _ _) | (with_reducible assumption) | (with_reducible refine Below.drew ?_) | (with_reducible refine Below.alloc ?_ ?_ _) | (with_reducible refine Below.setCell ?_ ?_ _) | (with_reducible refine Below.trans ?_ (Below.mono hb ?_)) | (with_reducible refine Below.trans ?_ (Below.mono hb1 ?_)) | (with_reducible refine Below.trans ?_ (Below.mono hb2 ?_)) | (with_reducible refine Below.trans ?_ (Below.mono hb3 ?_)) | (with_reducible refine Below.trans ?_ (Below.mono hb4 ?_)) | (with_reducible refine Below.trans ?_ (Below.mono hb5 ?_)) | (with_reducible refine Below.trans ?_ (Below.mono hb6 ?_)) | (with_reducible refine Below.trans ?_ (Below.mono hb7 ?_)) | (with_reducible refine Below.trans ?_ (Below.mono hb8 ?_)) | (with_reducible refine Below.trans ?_ (Below.mono hb9 ?_)) | (focus (first | omega | (simp; done) | (simp; omega))) | exact hB))
  have q2 : W1.cell? ⟨w.heap.size + 1, 0, none⟩ = some (.slice (some ⟨b, off, none⟩) m cp) := by subst hW1; exact cell_of_row _ (w.heap.size + 1) 0 _ _ _ (newest_at _ _ (by simp))
  clear hW1
  have hc1 : ∀ k, k < m → W1.cell? ⟨b, off + k, none⟩ = some (.slice (Ar k) (Lr k) (Cr k)) := fun k hk => (bW.cell (p := ⟨b, off + k, none⟩) hbl).trans (HS.out k hk)
  have x0 := hc1 0 (by omega)
  simp only [Nat.add_zero] at x0
  go_upto_region 6 with fail
  go_loopw [21] (fun i wr => ∃ k : Nat, k ≤ k0 ∧ i = .int .i64 k ∧ wr = W1) (fun i _ => m - (intOf i).toNat)
  case atStart => exact ⟨0, Nat.zero_le _, rfl, rfl⟩
  case round =>
    obtain ⟨k, hk, rfl, rfl⟩ := hrel
    have x1 := hc1 k (by omega)
    have ia : (0 : Int) ≤ (k : Int) := by omega
    have ib : (k : Int) < (m : Int) := by omega
    clear hc1
    by_cases hlt : k < k0
    · rw [K1.out k hlt] at x1
      clear K0
      go_wp2_with fail
      go_roundw
      case rel => exact ⟨k + 1, by omega, by simp⟩
      case measure => simp [intOf]; omega
    · obtain rfl : k = k0 := by omega
      generalize Lr k = lk at *
      generalize Lr 0 = l0 at *
      go_wp2_with fail
      go_ret2
      exact ⟨rfl, bW⟩

/-! ### the reference's -/
/-- What stands in a loop of the reference: a row of its own, and its unit. -/
def MSR (w wr : World) (g : Nat) (c0 : Int) (v : Nat → Int) (k : Nat) (o : Value) : Prop :=
  OwnI w.heap.size wr o (rowI v k) ∧ w.grownBy wr (some g) ∧ Unr wr g (c0 + cntI v k)
theorem MSR.next {w wr w1 w2 w3 : World} {g : Nat} {c0 : Int} {v : Nat → Int} {k : Nat} {o o' : Value} (h : MSR w wr g c0 v k o) (h1 : Below wr.heap.size wr w1) (h2 : w1.grownBy w2 (some g)) (hu : g < w.heap.size)
    (hV : Unr w2 g (c0 + cntI v k + ov (overI (v k)))) (hown : w3.ownsRow w.heap.size 2 1 o' (k + 1) ((rowI v k).map iv ++ [.int .i64 (clampI (v k))])) (h3 : Below w.heap.size w2 w3) :
    MSR w w3 g c0 v (k + 1) o' := by
  obtain ⟨_, hg, _⟩ := h
  refine ⟨own_nextI hown, ?_, ?_⟩
  · exact gr_low (gr_trans (gr_call hg h1) h2) h3
  · rw [cntI, ← Int.add_assoc]
    exact hV.low h3 (by omega)
set_option maxHeartbeats 4000000 in
theorem rmeans_any (g b off m n cp : Nat) (c0 : Int) (Ar : Nat → Option Addr) (Cr : Nat → Nat) (Zr : Nat → List Int) (w : World) (hm0 : 0 < m) (hm : m ≤ 64) (hn : n ≤ 65536)
    (hL : RL w (some g) (some ⟨b, off, none⟩) m n Ar Cr Zr) (hz : ∀ k, k < m → All64 (Zr k)) (hU : Unr w g c0) (hc0 : 0 ≤ c0) (hc : c0 < 900000000) :
    Calls Try.prog 45 #[.pointer (some ⟨g, 0, none⟩), .slice (some ⟨b, off, none⟩) m cp] w (GotR w g c0 (rowI (mnV Zr m) n) (cntI (mnV Zr m) n)) := by
  have HL := Lib.hid hL
  have HU := Lib.hid hU
  have hul := hU.lt
  clear hL hU
  go_enter Try.func45, Try.ntmps45
  go_wp2_with fail
  go_loopw [5, 6] (fun o i wr => ∃ k : Nat, k ≤ n ∧ i = .int .i64 k ∧ MSR w wr g c0 (mnV Zr m) k o) (fun _ i _ => n - (intOf i).toNat)
  case atStart => exact ⟨0, Nat.zero_le _, rfl, World.ownsRow_nil _ _ _ _, World.grownBy.refl _ _, by simpa [cntI] using HU.out⟩
  case round =>
    obtain ⟨k, hk, rfl, hS⟩ := hrel
    have hLk := HL.out.grown hS.2.1
    obtain ⟨b', off', e', hbl, hne, hcells⟩ := hLk.1 hm0
    injection e' with e'
    injection e' with e1 e2 _
    subst e1 e2
    have hsz := hS.2.1.size
    have x0 := hcells 0 hm0
    simp only [Nat.add_zero] at x0
    have HC := Lib.hid hcells
    have HLk := Lib.hid hLk
    clear hcells hLk
    have i0 : (0 : Int) < (m : Int) := by omega
    by_cases hlt : k < n
    · have hcb := cntI_bound (mnV Zr m) k
      have HS := Lib.hid hS
      clear hS
      go_wp2_with fail
      obtain ⟨wo, hwo⟩ : ∃ wo : World, wo = wr := ⟨_, rfl⟩
      obtain rfl : wo = wr := hwo
      clear x0
      go_loopw [7, 8] (fun o j wi => ∃ i : Nat, i ≤ m ∧ j = .int .i64 i ∧ OwnI wo.heap.size wi o (colZ Zr k i) ∧ Below wo.heap.size wo wi) (fun _ j _ => m - (intOf j).toNat)
      case atStart => exact ⟨0, Nat.zero_le _, rfl, World.ownsRow_nil _ _ _ _, Below.refl _ _⟩
      case round =>
        obtain ⟨i, hi, rfl, hO, hB⟩ := hrel
        have zi := hB.size
        by_cases hir : i < m
        · have x1 := (hB.cell (p := ⟨b, off + i, none⟩) hbl).trans (HC.out i hir)
          obtain ⟨b2, o2, e2, l2, _, d2⟩ := ((HLk.out.2 i hir).call hB).2 (by omega)
          have x2 := d2 k hlt
          rw [e2] at x1
          have ia : (0 : Int) ≤ (i : Int) := by omega
          have ib : (i : Int) < (m : Int) := by omega
          have ja : (0 : Int) ≤ (k : Int) := by omega
          have jb : (k : Int) < (n : Int) := by omega
          have HO := Lib.hid hO
          clear d2 hO
          go_wp2_with (at_builtin; refine app_i64 (B := wo.heap.size) (by omega) (HO.out.row (colZ_len _ _ _)) (by omega) rfl rfl rfl _ rfl rfl ?_; intro v' y3 hown3 hb3)
          go_roundw
          case rel => exact ⟨i + 1, by omega, by simp, OwnI.of_row (n := i + 1) (by rw [colZ_succ, List.map_append]; exact hown3) (colZ_len _ _ _), hB.trans hb3⟩
          case measure => simp [intOf]; omega
        · obtain rfl : i = m := by omega
          obtain ⟨D, e, rfl, rD⟩ := hO.lenW (colZ_len _ _ _)
          have DO := Lib.hid (fun W h1 h3 => rmean_any g (c0 + cntI (mnV Zr i) k) D i e (colZ Zr k i) W (by omega) hm0 h1 (colZ_all hz k) h3 (by omega) (by omega))
          have VR := Lib.hid (HS.out.2.2.call hB)
          have RD := Lib.hid rD
          clear hO rD
          go_wp2_with (first
            | (go_at_call 43; refine (DO.out _ RD.out VR.out).mono ?_; rintro e y2 ⟨rfl, hg2, hV2⟩; have zy2 := hg2.size)
            | (at_builtin; refine app_i64 (B := w.heap.size) (by omega) (own_rowI (OwnI.grown (OwnI.low HS.out.1 hB) hg2 (by rintro _ ⟨⟩; omega))) (by omega) rfl rfl rfl _ rfl rfl ?_; intro v' y3 hown3 hb3))
          go_roundw
          case rel => exact ⟨k + 1, by omega, by simp, HS.out.next hB hg2 hul hV2 hown3 hb3⟩
          case measure => simp [intOf]; omega
    · obtain rfl : k = n := by omega
      go_wp2_with fail
      go_ret
      exact ⟨_, rfl, hS.1, hS.2.1, hS.2.2⟩
end Go.Proofs.Ytikjomekhnkgcaa
