import Derived.Test.YtikjomekhnkgcaaD5
import Derived.Test.YtikjomekhnkgcaaO2
/- Scale and Clip of vectors; the closure of Outer. -/
namespace Go.Proofs.Ytikjomekhnkgcaa
open Go.RowKit
attribute [local go_sem ↓] Go.wp_at_zero Go.wp_at_succ

/-- A row appended whole, in a list of operations. -/
theorem app_all {ops : Array Oper} {rest : List Oper} {o : Oper} {a : Act} {w : World} {Q : Exit → Act → World → Prop} {s x : Operand}
    {B : Nat} (hB : B ≤ w.heap.size) {v : Value} {n : Nat} {xs : List Value} (hown : w.ownsRow B 28 1 v n xs)
    (hgd : o.guard = none) (ho : o.op = .call { callee := .builtin .append, args := #[s, x], argTypes := #[22, 22] })
    (hs : a.eval s = v) {u : Option Nat} {A : Option Addr} {m c : Nat} {ys : List Int} (hx : a.eval x = .slice A m c) (hr : Rd w u A m ys) (hn : n + m ≤ 1000000)
    (h : ∀ v' w', w'.ownsRow B 28 1 v' (n + m) (xs ++ ys.map iv) → w.grownBy w' v.ownBlock → (v'.ownBlock = v.ownBlock ∨ v'.ownBlock = some w.heap.size) → wpList Try.prog ops Q rest (a.put o.dst v') w') :
    wpList Try.prog ops Q (o :: rest) a w := by
  obtain ⟨i0, hi, hz0, hz1, hz2⟩ := info_parts infoFix
  have hw : Region.wanted o (yielded ops a.tmps) = true := by simp [Region.wanted, hgd]
  have key := step_app_all (P := Try.prog) (ops := ops) (Q := Q) (E := True) (K := wpList Try.prog ops Q rest) hgd s x 22 ho B 28 i0 (.int .i64 0) Try.underlying22 hi hz0 hz1 hz2 rfl v n xs hs hown u A m c ys hx hr hn hB h
  rw [if_pos hw] at key
  unfold wpList
  rw [if_pos hw]
  exact .inl key
/-- A row of the call's own, a mark, and how many of its parts were held. -/
def GotF3 (w : World) (U : Value) (u : Option Nat) (c : Int) (vs : List Int) (cut : Bool) (m : Int) (e : Ending) (w' : World) : Prop :=
  ∃ V, e = .returned (.tuple #[V, .bool cut, .int .i64 0]) ∧ OwnF w.heap.size w' V vs ∧ w.grownBy w' u ∧ Unt w' U u (c + m)
theorem Unt.ptr {w : World} {U : Value} {u : Option Nat} {c : Int} (h : Unt w U u c) : ∃ p, U = .pointer p := by
  rcases h with ⟨h, _⟩ | ⟨g, h, _⟩
  · exact ⟨_, h⟩
  · exact ⟨_, h⟩
def mulV (k : Int) (xs : List Int) (i : Nat) : Int := rnd (k * xs.getD i 0) 4294967296

theorem scl1_any (i : Nat) (k x c : Int) (U : Value) (u : Option Nat) (B3 B4 : Nat) (hk : In64 k) (hx : In64 x) (w : World)
    (c3 : w.cell? ⟨B3, 0, none⟩ = some U) (c4 : w.cell? ⟨B4, 0, none⟩ = some (.int .i64 k)) (hU : Unt w U u c) (hc0 : 0 ≤ c) (hc : c < 1000000000) :
    Calls Try.prog 58 #[.int .i64 i, .int .i64 x, .pointer (some ⟨B3, 0, none⟩), .pointer (some ⟨B4, 0, none⟩)] w fun e w' =>
      e = .returned (.int .i64 (clampI (rnd (k * x) 4294967296))) ∧ w.grownBy w' u ∧ Unt w' U u (c + ov (overI (rnd (k * x) 4294967296))) := by
  have UM := Lib.hid (fun W hU => umul_any U u c k x hk hx W hU hc0 hc)
  skip
  generalize rnd (k * x) 4294967296 = r at *
  have l3 := World.block_lt_of_cell? w _ c3
  have l4 := World.block_lt_of_cell? w _ c4
  go_enter Try.func58, Try.ntmps58
  go_wp2_with (go_at_call 56; refine (UM.out _ hU).mono ?_; rintro e wl ⟨rfl, hg, hV⟩)
  go_ret
  exact ⟨rfl, hg, hV⟩
set_option maxHeartbeats 1000000 in
theorem each_scl (n cp : Nat) (A : Option Addr) (xs : List Int) (v : Nat → Int) (U : Value) (u : Option Nat) (c : Int) (p1 p2 : Value) (w : World) (hn : n < 1000000) (hr : Rd w u A n xs)
    (hU : Unt w U u c) (hc0 : 0 ≤ c) (hc : c + n < 1000000000) (hul : ∀ g, u = some g → g < w.heap.size)
    (HK : ∀ (i : Nat) (c1 : Int) (w1 : World), i < n → w.grownBy w1 u → Unt w1 U u c1 → 0 ≤ c1 → c1 < 1000000000 →
      Calls Try.prog 58 #[.int .i64 i, .int .i64 (xs.getD i 0), p1, p2] w1 fun e w' => e = .returned (.int .i64 (clampI (v i))) ∧ w1.grownBy w' u ∧ Unt w' U u (c1 + ov (overI (v i)))) :
    Calls Try.prog 54 #[.slice A n cp, .func (.func 58) #[] #[p1, p2]] w (GotF w U u c (rowI v n) (cntI v n)) := by
  have hmax : n ≤ 9223372036854775807 := by omega
  obtain ⟨i0, hi, hz0, hz1, hz2⟩ := info_parts infoFix
  go_enter Try.func54, Try.ntmps54
  go_wp2_with (at_make; refine wpList_make_own _ rfl _ _ 22 rfl w.heap.size 28 i0 (.int .i64 0) 1 Try.underlying22 hi hz0 hz1 .i64 .i64 n n rfl rfl rfl (by rw [hz2]; omega) (by unfold maxLen; omega) (Nat.le_refl _) ?_; intro w1 hown hgrow)
  go_loopw [5, 13] (fun o i wr => ∃ k : Nat, k ≤ n ∧ i = .int .i64 k ∧ OwnF w.heap.size wr o (rowI v k) ∧ w.grownBy wr u ∧ Unt wr U u (c + cntI v k)) (fun _ i _ => n - (intOf i).toNat)
  case atStart =>
    have hb : Below w.heap.size w w1 := ⟨hgrow.os, hgrow.tape, hgrow.output, hgrow.size, fun k hk => hgrow.block k hk (by simp)⟩
    exact ⟨0, Nat.zero_le _, rfl, hown, gr_below hb u, by simpa [cntI] using hU.call hb⟩
  case round =>
    clear hown hgrow
    obtain ⟨k, hk, rfl, hownk, hG, hV⟩ := hrel
    have hsz := hG.size
    have hcb := cntI_bound v k
    by_cases hlt : k < n
    · obtain ⟨b, off, rfl, hb, hbu, hcells⟩ := (hr.grown hG).2 (by omega)
      have hcx := hcells k hlt
      clear hcells
      go_wp2_with (first
        | (go_at_call 58; refine (HK k _ _ hlt hG hV (by omega) (by omega)).mono ?_; rintro e w2 ⟨rfl, hg2, hV2⟩)
        | (at_builtin; refine app_fix (by have := hg2.size; omega) (own_row (hownk.grown hg2 hul)) (by omega) rfl rfl rfl _ rfl rfl ?_; intro v' w3 hown3 hb3))
      go_roundw
      case rel => exact ⟨k + 1, by omega, by simp, own_next hown3, gr_low (gr_trans hG hg2) hb3, by rw [cntI, ← Int.add_assoc]; exact hV2.low hb3 hul⟩
      case measure => simp [intOf]; omega
    · obtain rfl : k = n := by omega
      go_wp2
      go_ret
      exact ⟨_, rfl, hownk, hG, hV⟩

theorem clp1_any (i : Nat) (k x c : Int) (U : Value) (u : Option Nat) (B3 B4 : Nat) (hk : In64 k) (hx : In64 x) (w : World)
    (c3 : w.cell? ⟨B3, 0, none⟩ = some U) (c4 : w.cell? ⟨B4, 0, none⟩ = some (.int .i64 k)) (hU : Unt w U u c) (hc0 : 0 ≤ c) (hc : c < 1000000000) :
    Calls Try.prog 84 #[.int .i64 i, .int .i64 x, .pointer (some ⟨B3, 0, none⟩), .pointer (some ⟨B4, 0, none⟩)] w fun e w' =>
      e = .returned (.int .i64 (clampI (rnd (k * x) 4294967296))) ∧ w.grownBy w' u ∧ Unt w' U u (c + ov (overI (rnd (k * x) 4294967296))) := by
  have UM := Lib.hid (fun W hU => umul_any U u c x k hx hk W hU hc0 hc)
  rw [Int.mul_comm] at UM
  generalize rnd (k * x) 4294967296 = r at *
  have l3 := World.block_lt_of_cell? w _ c3
  have l4 := World.block_lt_of_cell? w _ c4
  go_enter Try.func84, Try.ntmps84
  go_wp2_with (go_at_call 56; refine (UM.out _ hU).mono ?_; rintro e wl ⟨rfl, hg, hV⟩)
  go_ret
  exact ⟨rfl, hg, hV⟩
set_option maxHeartbeats 1000000 in
theorem each_clp (n cp : Nat) (A : Option Addr) (xs : List Int) (v : Nat → Int) (U : Value) (u : Option Nat) (c : Int) (p1 p2 : Value) (w : World) (hn : n < 1000000) (hr : Rd w u A n xs)
    (hU : Unt w U u c) (hc0 : 0 ≤ c) (hc : c + n < 1000000000) (hul : ∀ g, u = some g → g < w.heap.size)
    (HK : ∀ (i : Nat) (c1 : Int) (w1 : World), i < n → w.grownBy w1 u → Unt w1 U u c1 → 0 ≤ c1 → c1 < 1000000000 →
      Calls Try.prog 84 #[.int .i64 i, .int .i64 (xs.getD i 0), p1, p2] w1 fun e w' => e = .returned (.int .i64 (clampI (v i))) ∧ w1.grownBy w' u ∧ Unt w' U u (c1 + ov (overI (v i)))) :
    Calls Try.prog 54 #[.slice A n cp, .func (.func 84) #[] #[p1, p2]] w (GotF w U u c (rowI v n) (cntI v n)) := by
  have hmax : n ≤ 9223372036854775807 := by omega
  obtain ⟨i0, hi, hz0, hz1, hz2⟩ := info_parts infoFix
  go_enter Try.func54, Try.ntmps54
  go_wp2_with (at_make; refine wpList_make_own _ rfl _ _ 22 rfl w.heap.size 28 i0 (.int .i64 0) 1 Try.underlying22 hi hz0 hz1 .i64 .i64 n n rfl rfl rfl (by rw [hz2]; omega) (by unfold maxLen; omega) (Nat.le_refl _) ?_; intro w1 hown hgrow)
  go_loopw [5, 13] (fun o i wr => ∃ k : Nat, k ≤ n ∧ i = .int .i64 k ∧ OwnF w.heap.size wr o (rowI v k) ∧ w.grownBy wr u ∧ Unt wr U u (c + cntI v k)) (fun _ i _ => n - (intOf i).toNat)
  case atStart =>
    have hb : Below w.heap.size w w1 := ⟨hgrow.os, hgrow.tape, hgrow.output, hgrow.size, fun k hk => hgrow.block k hk (by simp)⟩
    exact ⟨0, Nat.zero_le _, rfl, hown, gr_below hb u, by simpa [cntI] using hU.call hb⟩
  case round =>
    clear hown hgrow
    obtain ⟨k, hk, rfl, hownk, hG, hV⟩ := hrel
    have hsz := hG.size
    have hcb := cntI_bound v k
    by_cases hlt : k < n
    · obtain ⟨b, off, rfl, hb, hbu, hcells⟩ := (hr.grown hG).2 (by omega)
      have hcx := hcells k hlt
      clear hcells
      go_wp2_with (first
        | (go_at_call 84; refine (HK k _ _ hlt hG hV (by omega) (by omega)).mono ?_; rintro e w2 ⟨rfl, hg2, hV2⟩)
        | (at_builtin; refine app_fix (by have := hg2.size; omega) (own_row (hownk.grown hg2 hul)) (by omega) rfl rfl rfl _ rfl rfl ?_; intro v' w3 hown3 hb3))
      go_roundw
      case rel => exact ⟨k + 1, by omega, by simp, own_next hown3, gr_low (gr_trans hG hg2) hb3, by rw [cntI, ← Int.add_assoc]; exact hV2.low hb3 hul⟩
      case measure => simp [intOf]; omega
    · obtain rfl : k = n := by omega
      go_wp2
      go_ret
      exact ⟨_, rfl, hownk, hG, hV⟩

theorem otr1_any (i : Nat) (k x c : Int) (U : Value) (u : Option Nat) (B3 B4 : Nat) (hk : In64 k) (hx : In64 x) (w : World)
    (c3 : w.cell? ⟨B3, 0, none⟩ = some U) (c4 : w.cell? ⟨B4, 0, none⟩ = some (.int .i64 k)) (hU : Unt w U u c) (hc0 : 0 ≤ c) (hc : c < 1000000000) :
    Calls Try.prog 55 #[.int .i64 i, .int .i64 x, .pointer (some ⟨B3, 0, none⟩), .pointer (some ⟨B4, 0, none⟩)] w fun e w' =>
      e = .returned (.int .i64 (clampI (rnd (k * x) 4294967296))) ∧ w.grownBy w' u ∧ Unt w' U u (c + ov (overI (rnd (k * x) 4294967296))) := by
  have UM := Lib.hid (fun W hU => umul_any U u c k x hk hx W hU hc0 hc)
  skip
  generalize rnd (k * x) 4294967296 = r at *
  have l3 := World.block_lt_of_cell? w _ c3
  have l4 := World.block_lt_of_cell? w _ c4
  go_enter Try.func55, Try.ntmps55
  go_wp2_with (go_at_call 56; refine (UM.out _ hU).mono ?_; rintro e wl ⟨rfl, hg, hV⟩)
  go_ret
  exact ⟨rfl, hg, hV⟩
set_option maxHeartbeats 1000000 in
theorem each_otr (n cp : Nat) (A : Option Addr) (xs : List Int) (v : Nat → Int) (U : Value) (u : Option Nat) (c : Int) (p1 p2 : Value) (w : World) (hn : n < 1000000) (hr : Rd w u A n xs)
    (hU : Unt w U u c) (hc0 : 0 ≤ c) (hc : c + n < 1000000000) (hul : ∀ g, u = some g → g < w.heap.size)
    (HK : ∀ (i : Nat) (c1 : Int) (w1 : World), i < n → w.grownBy w1 u → Unt w1 U u c1 → 0 ≤ c1 → c1 < 1000000000 →
      Calls Try.prog 55 #[.int .i64 i, .int .i64 (xs.getD i 0), p1, p2] w1 fun e w' => e = .returned (.int .i64 (clampI (v i))) ∧ w1.grownBy w' u ∧ Unt w' U u (c1 + ov (overI (v i)))) :
    Calls Try.prog 54 #[.slice A n cp, .func (.func 55) #[] #[p1, p2]] w (GotF w U u c (rowI v n) (cntI v n)) := by
  have hmax : n ≤ 9223372036854775807 := by omega
  obtain ⟨i0, hi, hz0, hz1, hz2⟩ := info_parts infoFix
  go_enter Try.func54, Try.ntmps54
  go_wp2_with (at_make; refine wpList_make_own _ rfl _ _ 22 rfl w.heap.size 28 i0 (.int .i64 0) 1 Try.underlying22 hi hz0 hz1 .i64 .i64 n n rfl rfl rfl (by rw [hz2]; omega) (by unfold maxLen; omega) (Nat.le_refl _) ?_; intro w1 hown hgrow)
  go_loopw [5, 13] (fun o i wr => ∃ k : Nat, k ≤ n ∧ i = .int .i64 k ∧ OwnF w.heap.size wr o (rowI v k) ∧ w.grownBy wr u ∧ Unt wr U u (c + cntI v k)) (fun _ i _ => n - (intOf i).toNat)
  case atStart =>
    have hb : Below w.heap.size w w1 := ⟨hgrow.os, hgrow.tape, hgrow.output, hgrow.size, fun k hk => hgrow.block k hk (by simp)⟩
    exact ⟨0, Nat.zero_le _, rfl, hown, gr_below hb u, by simpa [cntI] using hU.call hb⟩
  case round =>
    clear hown hgrow
    obtain ⟨k, hk, rfl, hownk, hG, hV⟩ := hrel
    have hsz := hG.size
    have hcb := cntI_bound v k
    by_cases hlt : k < n
    · obtain ⟨b, off, rfl, hb, hbu, hcells⟩ := (hr.grown hG).2 (by omega)
      have hcx := hcells k hlt
      clear hcells
      go_wp2_with (first
        | (go_at_call 55; refine (HK k _ _ hlt hG hV (by omega) (by omega)).mono ?_; rintro e w2 ⟨rfl, hg2, hV2⟩)
        | (at_builtin; refine app_fix (by have := hg2.size; omega) (own_row (hownk.grown hg2 hul)) (by omega) rfl rfl rfl _ rfl rfl ?_; intro v' w3 hown3 hb3))
      go_roundw
      case rel => exact ⟨k + 1, by omega, by simp, own_next hown3, gr_low (gr_trans hG hg2) hb3, by rw [cntI, ← Int.add_assoc]; exact hV2.low hb3 hul⟩
      case measure => simp [intOf]; omega
    · obtain rfl : k = n := by omega
      go_wp2
      go_ret
      exact ⟨_, rfl, hownk, hG, hV⟩

theorem mulK {U : Value} {u : Option Nat} {k : Int} {W1 wq : World} {g3 g4 : Nat} (hG : W1.grownBy wq u) (h3 : W1.cell? ⟨g3, 0, none⟩ = some U) (h4 : W1.cell? ⟨g4, 0, none⟩ = some (.int .i64 k)) (n3 : some g3 ≠ u) (n4 : some g4 ≠ u) :
    wq.cell? ⟨g3, 0, none⟩ = some U ∧ wq.cell? ⟨g4, 0, none⟩ = some (.int .i64 k) :=
  ⟨(gr_cell hG (World.block_lt_of_cell? W1 _ h3) n3).trans h3, (gr_cell hG (World.block_lt_of_cell? W1 _ h4) n4).trans h4⟩
set_option maxHeartbeats 1000000 in
theorem vscale_any (A : Option Addr) (n cp : Nat) (xs : List Int) (U : Value) (u : Option Nat) (c k : Int) (w : World) (hk : In64 k) (hxs : All64 xs) (hn : n ≤ 65536)
    (hx : Rd w u A n xs) (hU : Unt w U u c) (hc0 : 0 ≤ c) (hc : c < 900000000) :
    Calls Try.prog 30 #[U, .int .i64 k, .slice A n cp] w (GotF2 w U u c (rowI (mulV k xs) n) (cntI (mulV k xs) n)) := by
  have hmf : ∀ (fn : Fn) (first cap : Array Value) (w : World), (Instr.makeFunc fn first cap).run Try.prog w = .ok (.func fn first cap) w := fun _ _ _ _ => rfl
  have hul := hU.lt
  have EA := Lib.hid (fun W hr hU' hl HK => each_scl n cp A xs (mulV k xs) U u c (.pointer (some ⟨w.heap.size, 0, none⟩)) (.pointer (some ⟨w.heap.size + 1, 0, none⟩)) W (by omega) hr hU' hc0 (by omega) hl HK)
  obtain ⟨p, rfl⟩ := hU.ptr
  go_enter Try.func30, Try.ntmps30
  go_wp2_with (first
    | (go_at_call 48; refine (fits1_yes A n cp _ _ (cell_of_row _ _ 0 _ _ _ (newest_at _ _ (by simp))) hn).mono ?_; rintro e w1 ⟨rfl, hw⟩; have q3 : w1.cell? ⟨w.heap.size, 0, none⟩ = some (.pointer p) := (by rw [← hw]; exact cell_of_row _ w.heap.size 0 _ _ _ (hp_alloc (hp_alloc (heap_alloc_new w _) _) _)); have q4 : w1.cell? ⟨w.heap.size + 1, 0, none⟩ = some (.int .i64 k) := (by rw [← hw]; exact cell_of_row _ (w.heap.size + 1) 0 _ _ _ (hp_alloc (newest_at (w.alloc _) _ (World.size_alloc _ _).symm) _)); have hB : Below w.heap.size w w1 := (by rw [← hw]; exact (by repeat (first | (with_reducible exact Below.refl _ _) | (with_reducible assumption) | (with_reducible refine Below.drew ?_) | (with_reducible refine Below.alloc ?_ ?_ _) | (with_reducible refine Below.setCell ?_ ?_ _) | (with_reducible refine Below.trans ?_ (Below.mono hb ?_)) | (with_reducible refine Below.trans ?_ (Below.mono hb1 ?_)) | (with_reducible refine Below.trans ?_ (Below.mono hb2 ?_)) | (with_reducible refine Below.trans ?_ (Below.mono hb3 ?_)) | (with_reducible refine Below.trans ?_ (Below.mono hb4 ?_)) | (with_reducible refine Below.trans ?_ (Below.mono hb5 ?_)) | (with_reducible refine Below.trans ?_ (Below.mono hb6 ?_)) | (with_reducible refine Below.trans ?_ (Below.mono hb7 ?_)) | (with_reducible refine Below.trans ?_ (Below.mono hb8 ?_)) | (with_reducible refine Below.trans ?_ (Below.mono hb9 ?_)) | (focus (first | omega | (simp; done) | (simp; omega))) | exact hB))); have zz := hB.size; clear hw)
    | (go_at_call 54; refine (EA.out _ (hx.call hB) (hU.call hB) (fun g hg => by have := hul g hg; omega) ?_).mono ?_))
  · intro i c1 wq hi hG hV h0 h1
    obtain ⟨e3, e4⟩ := mulK hG q3 q4 (fun e => by have := hul _ e.symm; omega) (fun e => by have := hul _ e.symm; omega)
    exact scl1_any i k (xs.getD i 0) c1 _ u _ _ hk (hxs i) wq e3 e4 hV h0 h1
  · rintro e w2 ⟨V, rfl, hO, hG, hV⟩
    go_wp2
    go_ret2
    exact ⟨V, rfl, hO.base (by omega), gr_trans (gr_below hB u) hG, hV⟩
theorem own_xs {B n : Nat} {w : World} {V : Value} {xs : List Int} (h : w.ownsRow B 28 1 V (0 + n) ([] ++ xs.map iv)) (hl : xs.length = n) : OwnF B w V xs := by
  unfold OwnF; rw [hl]; simpa using h
theorem gr_ownE {B : Nat} {a w : World} {g : Nat} {n c : Nat} (hg : a.grownBy w (Value.slice (some ⟨g, 0, none⟩) n c).ownBlock) (hB : B ≤ a.heap.size) (hb : B ≤ g) : Below B a w :=
  ⟨hg.os, hg.tape, hg.output, hg.size, fun k hk => hg.block k (by omega) (fun e => by simp [Value.ownBlock] at e; omega)⟩
theorem divI_in (m d a : Int) : In64 (divI m d a) := by
  unfold divI
  by_cases h : d = 0
  · rw [if_pos h]
    unfold noneI In64
    split <;> (try split) <;> omega
  · rw [if_neg h]; exact clampI_in _
set_option maxHeartbeats 1000000 in
theorem vclip_low (A : Option Addr) (n cp : Nat) (xs : List Int) (U : Value) (u : Option Nat) (c most : Int) (w : World) (hm : most ≤ 0) (hn : n ≤ 65536)
    (hx : Rd w u A n xs) (hU : Unt w U u c) :
    Calls Try.prog 46 #[U, .slice A n cp, .int .i64 most] w (GotF3 w U u c xs false 0) := by
  obtain ⟨p, rfl⟩ := hU.ptr
  go_enter Try.func46, Try.ntmps46
  go_wp2_with (first
    | (go_at_call 48; refine (fits1_yes A n cp _ _ (by simp) hn).mono ?_; rintro e w1 ⟨rfl, hw⟩; have q3 : w1.cell? ⟨w.heap.size, 0, none⟩ = some (.pointer p) := (by rw [← hw]; exact cell_of_row _ w.heap.size 0 _ _ _ (hp_alloc (heap_alloc_new w _) _)); have hB : Below w.heap.size w w1 := (by rw [← hw]; exact (by repeat (first | (with_reducible exact Below.refl _ _) | (with_reducible assumption) | (with_reducible refine Below.drew ?_) | (with_reducible refine Below.alloc ?_ ?_ _) | (with_reducible refine Below.setCell ?_ ?_ _) | (with_reducible refine Below.trans ?_ (Below.mono hb ?_)) | (with_reducible refine Below.trans ?_ (Below.mono hb1 ?_)) | (with_reducible refine Below.trans ?_ (Below.mono hb2 ?_)) | (with_reducible refine Below.trans ?_ (Below.mono hb3 ?_)) | (with_reducible refine Below.trans ?_ (Below.mono hb4 ?_)) | (with_reducible refine Below.trans ?_ (Below.mono hb5 ?_)) | (with_reducible refine Below.trans ?_ (Below.mono hb6 ?_)) | (with_reducible refine Below.trans ?_ (Below.mono hb7 ?_)) | (with_reducible refine Below.trans ?_ (Below.mono hb8 ?_)) | (with_reducible refine Below.trans ?_ (Below.mono hb9 ?_)) | (focus (first | omega | (simp; done) | (simp; omega))) | exact hB))); have zz : w.heap.size < w1.heap.size := (by rw [← hw]; simp; omega); clear hw)
    | (at_builtin; refine app_all (B := w1.heap.size) (v := .slice (some ⟨w1.heap.size, 0, none⟩) 0 0) (by simp) (by exact own_e (w := w1) w1.heap.size rfl (Nat.le_refl _)) rfl rfl (by rfl) (by rfl) (rd_alloc (hx.call hB) _) (by omega) ?_; intro v1 w2 hown hg2 _; have hb2 : Below w1.heap.size w1 w2 := (((Below.refl _ _).alloc (Nat.le_refl _) _).trans (gr_ownE hg2 (by simp) (Nat.le_refl _))); have hO2 := own_xs hown hx.1; have p3 : w2.cell? ⟨w.heap.size, 0, none⟩ = some (.pointer p) := (Below.cell hb2 (p := ⟨w.heap.size, 0, none⟩) zz).trans q3; have hB2 := hB.trans (hb2.mono hB.size); have zz2 := hb2.size; clear hg2 hown))
  go_ret3
  exact ⟨v1, rfl, hO2.base hB.size, gr_below hB2 u, by rw [Int.add_zero]; exact hU.call hB2⟩
set_option maxHeartbeats 1000000 in
theorem vclip_same (A : Option Addr) (n cp : Nat) (xs : List Int) (U : Value) (u : Option Nat) (c most : Int) (w : World) (hm : 0 < most) (hxs : All64 xs) (hn : n ≤ 65536) (hle : nrmI (dotI xs xs 0 1 n) ≤ most)
    (hx : Rd w u A n xs) (hU : Unt w U u c) (hc0 : 0 ≤ c) (hc : c < 900000000) :
    Calls Try.prog 46 #[U, .slice A n cp, .int .i64 most] w (GotF3 w U u c xs false (ov (nrmO (dotI xs xs 0 1 n)))) := by
  have NO := Lib.hid (fun W h1 h2 => vnorm_any U u c A n cp xs W hn h1 hxs h2 hc0 (by omega))
  have hm' : ¬ most ≤ 0 := by omega
  generalize nrmI (dotI xs xs 0 1 n) = nr at *
  generalize nrmO (dotI xs xs 0 1 n) = no at *
  obtain ⟨p, rfl⟩ := hU.ptr
  go_enter Try.func46, Try.ntmps46
  go_wp2_with (first
    | (go_at_call 48; refine (fits1_yes A n cp _ _ (by simp) hn).mono ?_; rintro e w1 ⟨rfl, hw⟩; have q3 : w1.cell? ⟨w.heap.size, 0, none⟩ = some (.pointer p) := (by rw [← hw]; exact cell_of_row _ w.heap.size 0 _ _ _ (hp_alloc (heap_alloc_new w _) _)); have hB : Below w.heap.size w w1 := (by rw [← hw]; exact (by repeat (first | (with_reducible exact Below.refl _ _) | (with_reducible assumption) | (with_reducible refine Below.drew ?_) | (with_reducible refine Below.alloc ?_ ?_ _) | (with_reducible refine Below.setCell ?_ ?_ _) | (with_reducible refine Below.trans ?_ (Below.mono hb ?_)) | (with_reducible refine Below.trans ?_ (Below.mono hb1 ?_)) | (with_reducible refine Below.trans ?_ (Below.mono hb2 ?_)) | (with_reducible refine Below.trans ?_ (Below.mono hb3 ?_)) | (with_reducible refine Below.trans ?_ (Below.mono hb4 ?_)) | (with_reducible refine Below.trans ?_ (Below.mono hb5 ?_)) | (with_reducible refine Below.trans ?_ (Below.mono hb6 ?_)) | (with_reducible refine Below.trans ?_ (Below.mono hb7 ?_)) | (with_reducible refine Below.trans ?_ (Below.mono hb8 ?_)) | (with_reducible refine Below.trans ?_ (Below.mono hb9 ?_)) | (focus (first | omega | (simp; done) | (simp; omega))) | exact hB))); have zz : w.heap.size < w1.heap.size := (by rw [← hw]; simp; omega); clear hw)
    | (at_builtin; refine app_all (B := w1.heap.size) (v := .slice (some ⟨w1.heap.size, 0, none⟩) 0 0) (by simp) (by exact own_e (w := w1) w1.heap.size rfl (Nat.le_refl _)) rfl rfl (by rfl) (by rfl) (rd_alloc (hx.call hB) _) (by omega) ?_; intro v1 w2 hown hg2 _; have hb2 : Below w1.heap.size w1 w2 := (((Below.refl _ _).alloc (Nat.le_refl _) _).trans (gr_ownE hg2 (by simp) (Nat.le_refl _))); have hO2 := own_xs hown hx.1; have p3 : w2.cell? ⟨w.heap.size, 0, none⟩ = some (.pointer p) := (Below.cell hb2 (p := ⟨w.heap.size, 0, none⟩) zz).trans q3; have hB2 := hB.trans (hb2.mono hB.size); have zz2 := hb2.size; clear hg2 hown)
    | (go_at_call 47; refine (NO.out _ (hx.call hB2).anyu (hU.call hB2)).mono ?_; rintro e w3 ⟨rfl, hg3, hV3⟩))
  go_ret3
  exact ⟨v1, rfl, (hO2.grown hg3 (fun g hg => by have := hU.lt g hg; omega)).base hB.size, gr_trans (gr_below hB2 u) hg3, hV3⟩
set_option maxHeartbeats 2000000 in
theorem vclip_cut (A : Option Addr) (n cp : Nat) (xs : List Int) (U : Value) (u : Option Nat) (c most : Int) (w : World) (hm : 0 < most) (hm64 : In64 most) (hxs : All64 xs) (hn : n ≤ 65536) (hgt : most < nrmI (dotI xs xs 0 1 n))
    (hx : Rd w u A n xs) (hU : Unt w U u c) (hc0 : 0 ≤ c) (hc : c < 900000000) :
    Calls Try.prog 46 #[U, .slice A n cp, .int .i64 most] w (GotF3 w U u c (rowI (mulV (divI (most * 4294967296) (nrmI (dotI xs xs 0 1 n)) most) xs) n) true (ov (nrmO (dotI xs xs 0 1 n)) + ov (divO (most * 4294967296) (nrmI (dotI xs xs 0 1 n))) + cntI (mulV (divI (most * 4294967296) (nrmI (dotI xs xs 0 1 n)) most) xs) n)) := by
  have hmf : ∀ (fn : Fn) (first cap : Array Value) (w : World), (Instr.makeFunc fn first cap).run Try.prog w = .ok (.func fn first cap) w := fun _ _ _ _ => rfl
  have hul := hU.lt
  have NO := Lib.hid (fun W h1 h2 => vnorm_any U u c A n cp xs W hn h1 hxs h2 hc0 (by omega))
  have hm' : ¬ most ≤ 0 := by omega
  have hnr := nrmI_in (dotI_sq xs n)
  have n64 : In64 (nrmI (dotI xs xs 0 1 n)) := by unfold In64; omega
  have hgt' : ¬ nrmI (dotI xs xs 0 1 n) ≤ most := by omega
  generalize nrmI (dotI xs xs 0 1 n) = nr at *
  generalize nrmO (dotI xs xs 0 1 n) = no at *
  have o1 := ov_01 no
  have o2 := ov_01 (divO (most * 4294967296) nr)
  have UD := Lib.hid (fun W h => udiv_any U u (c + ov no) most nr hm64 n64 W h (by omega) (by omega))
  have k64 : In64 (divI (most * 4294967296) nr most) := divI_in _ _ _
  generalize divI (most * 4294967296) nr most = k at *
  generalize divO (most * 4294967296) nr = dO at *
  have EA := Lib.hid (fun p2 W hr hU' hl HK => each_clp n cp A xs (mulV k xs) U u (c + ov no + ov dO) (.pointer (some ⟨w.heap.size, 0, none⟩)) p2 W (by omega) hr hU' (by omega) (by omega) hl HK)
  clear hgt hm hnr
  obtain ⟨p, rfl⟩ := hU.ptr
  go_enter Try.func46, Try.ntmps46
  go_wp2_with (first
    | (go_at_call 48; refine (fits1_yes A n cp _ _ (by simp) hn).mono ?_; rintro e w1 ⟨rfl, hw⟩; have q3 : w1.cell? ⟨w.heap.size, 0, none⟩ = some (.pointer p) := (by rw [← hw]; exact cell_of_row _ w.heap.size 0 _ _ _ (hp_alloc (heap_alloc_new w _) _)); have hB : Below w.heap.size w w1 := (by rw [← hw]; exact (by repeat (first | (with_reducible exact Below.refl _ _) | (with_reducible assumption) | (with_reducible refine Below.drew ?_) | (with_reducible refine Below.alloc ?_ ?_ _) | (with_reducible refine Below.setCell ?_ ?_ _) | (with_reducible refine Below.trans ?_ (Below.mono hb ?_)) | (with_reducible refine Below.trans ?_ (Below.mono hb1 ?_)) | (with_reducible refine Below.trans ?_ (Below.mono hb2 ?_)) | (with_reducible refine Below.trans ?_ (Below.mono hb3 ?_)) | (with_reducible refine Below.trans ?_ (Below.mono hb4 ?_)) | (with_reducible refine Below.trans ?_ (Below.mono hb5 ?_)) | (with_reducible refine Below.trans ?_ (Below.mono hb6 ?_)) | (with_reducible refine Below.trans ?_ (Below.mono hb7 ?_)) | (with_reducible refine Below.trans ?_ (Below.mono hb8 ?_)) | (with_reducible refine Below.trans ?_ (Below.mono hb9 ?_)) | (focus (first | omega | (simp; done) | (simp; omega))) | exact hB))); have zz : w.heap.size < w1.heap.size := (by rw [← hw]; simp; omega); clear hw)
    | (at_builtin; refine app_all (B := w1.heap.size) (v := .slice (some ⟨w1.heap.size, 0, none⟩) 0 0) (by simp) (by exact own_e (w := w1) w1.heap.size rfl (Nat.le_refl _)) rfl rfl (by rfl) (by rfl) (rd_alloc (hx.call hB) _) (by omega) ?_; intro v1 w2 hown hg2 _; have hb2 : Below w1.heap.size w1 w2 := (((Below.refl _ _).alloc (Nat.le_refl _) _).trans (gr_ownE hg2 (by simp) (Nat.le_refl _))); have hO2 := own_xs hown hx.1; have p3 : w2.cell? ⟨w.heap.size, 0, none⟩ = some (.pointer p) := (Below.cell hb2 (p := ⟨w.heap.size, 0, none⟩) zz).trans q3; have hB2 := hB.trans (hb2.mono hB.size); have zz2 := hb2.size; clear hg2 hown)
    | (go_at_call 47; refine (NO.out _ (hx.call hB2).anyu (hU.call hB2)).mono ?_; rintro e w3 ⟨rfl, hg3, hV3⟩; have hG3 := gr_trans (gr_below hB2 u) hg3; have r3 : w3.cell? ⟨w.heap.size, 0, none⟩ = some (.pointer p) := (gr_cell hg3 (by omega) (fun e => by have := hul _ e.symm; omega)).trans p3; have z3 := hg3.size)
    | (go_at_call 83; refine (UD.out _ hV3).mono ?_; rintro e w4 ⟨rfl, hg4, hV4⟩; have hG4 := gr_trans hG3 hg4; have r4 : w4.cell? ⟨w.heap.size, 0, none⟩ = some (.pointer p) := (gr_cell hg4 (by omega) (fun e => by have := hul _ e.symm; omega)).trans r3; have z4 := hg4.size)
    | (go_at_call 54; refine (EA.out _ _ ((hx.grown hG4).call (by repeat (first | (with_reducible exact Below.refl _ _) | (with_reducible assumption) | (with_reducible refine Below.drew ?_) | (with_reducible refine Below.alloc ?_ ?_ _) | (with_reducible refine Below.setCell ?_ ?_ _) | (with_reducible refine Below.trans ?_ (Below.mono hb ?_)) | (with_reducible refine Below.trans ?_ (Below.mono hb1 ?_)) | (with_reducible refine Below.trans ?_ (Below.mono hb2 ?_)) | (with_reducible refine Below.trans ?_ (Below.mono hb3 ?_)) | (with_reducible refine Below.trans ?_ (Below.mono hb4 ?_)) | (with_reducible refine Below.trans ?_ (Below.mono hb5 ?_)) | (with_reducible refine Below.trans ?_ (Below.mono hb6 ?_)) | (with_reducible refine Below.trans ?_ (Below.mono hb7 ?_)) | (with_reducible refine Below.trans ?_ (Below.mono hb8 ?_)) | (with_reducible refine Below.trans ?_ (Below.mono hb9 ?_)) | (focus (first | omega | (simp; done) | (simp; omega))) | exact hB))) (hV4.call (by repeat (first | (with_reducible exact Below.refl _ _) | (with_reducible assumption) | (with_reducible refine Below.drew ?_) | (with_reducible refine Below.alloc ?_ ?_ _) | (with_reducible refine Below.setCell ?_ ?_ _) | (with_reducible refine Below.trans ?_ (Below.mono hb ?_)) | (with_reducible refine Below.trans ?_ (Below.mono hb1 ?_)) | (with_reducible refine Below.trans ?_ (Below.mono hb2 ?_)) | (with_reducible refine Below.trans ?_ (Below.mono hb3 ?_)) | (with_reducible refine Below.trans ?_ (Below.mono hb4 ?_)) | (with_reducible refine Below.trans ?_ (Below.mono hb5 ?_)) | (with_reducible refine Below.trans ?_ (Below.mono hb6 ?_)) | (with_reducible refine Below.trans ?_ (Below.mono hb7 ?_)) | (with_reducible refine Below.trans ?_ (Below.mono hb8 ?_)) | (with_reducible refine Below.trans ?_ (Below.mono hb9 ?_)) | (focus (first | omega | (simp; done) | (simp; omega))) | exact hB))) (fun g hg => by have := hul g hg; simp; omega) ?_).mono ?_))
  · intro i c1 wq hi hG hV h0 h1
    have r5 : (w4.alloc (.cells #[.int .i64 k] 28)).cell? ⟨w.heap.size, 0, none⟩ = some (.pointer p) := (Below.cell ((Below.refl w4.heap.size w4).alloc (Nat.le_refl _) (.cells #[.int .i64 k] 28)) (p := ⟨w.heap.size, 0, none⟩) (by show w.heap.size < w4.heap.size; omega)).trans r4
    have r6 : (w4.alloc (.cells #[.int .i64 k] 28)).cell? ⟨w4.heap.size, 0, none⟩ = some (.int .i64 k) := cell_of_row _ w4.heap.size 0 _ _ _ (heap_alloc_new w4 _)
    obtain ⟨e3, e4⟩ := mulK hG r5 r6 (fun e => by have := hul _ e.symm; omega) (fun e => by have := hul _ e.symm; omega)
    exact clp1_any i k (xs.getD i 0) c1 _ u _ _ k64 (hxs i) wq e3 e4 hV h0 h1
  · rintro e w5 ⟨V, rfl, hO, hG, hV⟩
    go_wp2
    go_ret3
    refine ⟨V, rfl, hO.base (by simp; omega), gr_trans (gr_alloc hG4 _) hG, ?_⟩
    rw [show c + (ov no + ov dO + cntI (mulV k xs) n) = c + ov no + ov dO + cntI (mulV k xs) n by omega]
    exact hV
end Go.Proofs.Ytikjomekhnkgcaa
