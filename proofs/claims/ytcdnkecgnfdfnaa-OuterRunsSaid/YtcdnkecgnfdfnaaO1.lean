import Derived.Test.YtcdnkecgnfdfnaaV3
/- The outer step. -/
namespace Go.Proofs.Ytcdnkecgnfdfnaa
open Go.RowKit
attribute [local go_sem ↓] Go.wp_at_zero Go.wp_at_succ

theorem row_any (A B : Option Addr) (n cp cq B3 : Nat) (xs ys : List Int) (U : Value) (u : Option Nat) (c k : Int) (w : World) (hk : In64 k) (hxs : All64 xs) (hys : All64 ys) (hn : n ≤ 65536)
    (c3 : w.cell? ⟨B3, 0, none⟩ = some U) (hx : Rd w u A n xs) (hy : Rd w u B n ys) (hU : Unt w U u c) (hc0 : 0 ≤ c) (hc : c < 900000000) :
    Calls Try.prog 21 #[.int .i64 k, .slice A n cp, .slice B n cq, .pointer (some ⟨B3, 0, none⟩)] w (GotF w U u c (rowI (axV k xs ys) n) (cntI (axV k xs ys) n)) := by
  have AX := Lib.hid (fun W hx hy hU => axpy_any A B n cp cq xs ys U u c k W hk hxs hys hn hx hy hU hc0 hc)
  go_enter Try.func21, Try.ntmps21
  go_wp2_with (go_at_call 22; refine (AX.out _ hx hy hU).mono ?_; rintro e w1 ⟨V, rfl, hO, hG, hV⟩)
  go_ret
  exact ⟨V, rfl, hO, hG, hV⟩
theorem asked_ok (A B C : Option Addr) (n cp cq cr : Nat) (r m : Int) (w : World) (hr : 0 ≤ r) (hm : 0 ≤ m) (hm1 : m < 4294967296) (hn : n ≤ 65536) :
    Calls Try.prog 20 #[.int .i64 r, .int .i64 m, .agg #[.slice A n cp, .slice B n cq], .slice C n cr] w fun e w' => e = .returned (.int .i64 0) ∧ Below w.heap.size w w' := by
  go_enter Try.func20, Try.ntmps20
  go_wp2
  go_ret
  exact ⟨rfl, (by repeat (first | (with_reducible exact Below.refl _ _) | (with_reducible assumption) | (with_reducible refine Below.drew ?_) | (with_reducible refine Below.alloc ?_ ?_ _) | (with_reducible refine Below.setCell ?_ ?_ _) | (with_reducible refine Below.trans ?_ (Below.mono hb ?_)) | (with_reducible refine Below.trans ?_ (Below.mono hb1 ?_)) | (with_reducible refine Below.trans ?_ (Below.mono hb2 ?_)) | (with_reducible refine Below.trans ?_ (Below.mono hb3 ?_)) | (with_reducible refine Below.trans ?_ (Below.mono hb4 ?_)) | (with_reducible refine Below.trans ?_ (Below.mono hb5 ?_)) | (with_reducible refine Below.trans ?_ (Below.mono hb6 ?_)) | (with_reducible refine Below.trans ?_ (Below.mono hb7 ?_)) | (with_reducible refine Below.trans ?_ (Below.mono hb8 ?_)) | (with_reducible refine Below.trans ?_ (Below.mono hb9 ?_)) | (focus (first | omega | (simp; done) | (simp; omega))) | exact hB))⟩
theorem asked_rule (A B C : Option Addr) (n1 n2 n3 cp cq cr : Nat) (r m : Int) (w : World) (h : r < 0 ∨ m < 0 ∨ 4294967296 ≤ m) :
    Calls Try.prog 20 #[.int .i64 r, .int .i64 m, .agg #[.slice A n1 cp, .slice B n2 cq], .slice C n3 cr] w fun e w' => e = .returned (.int .i64 80) ∧ Below w.heap.size w w' := by
  by_cases h1 : r < 0
  · go_enter Try.func20, Try.ntmps20
    go_wp2
    go_ret
    exact ⟨rfl, (by repeat (first | (with_reducible exact Below.refl _ _) | (with_reducible assumption) | (with_reducible refine Below.drew ?_) | (with_reducible refine Below.alloc ?_ ?_ _) | (with_reducible refine Below.setCell ?_ ?_ _) | (with_reducible refine Below.trans ?_ (Below.mono hb ?_)) | (with_reducible refine Below.trans ?_ (Below.mono hb1 ?_)) | (with_reducible refine Below.trans ?_ (Below.mono hb2 ?_)) | (with_reducible refine Below.trans ?_ (Below.mono hb3 ?_)) | (with_reducible refine Below.trans ?_ (Below.mono hb4 ?_)) | (with_reducible refine Below.trans ?_ (Below.mono hb5 ?_)) | (with_reducible refine Below.trans ?_ (Below.mono hb6 ?_)) | (with_reducible refine Below.trans ?_ (Below.mono hb7 ?_)) | (with_reducible refine Below.trans ?_ (Below.mono hb8 ?_)) | (with_reducible refine Below.trans ?_ (Below.mono hb9 ?_)) | (focus (first | omega | (simp; done) | (simp; omega))) | exact hB))⟩
  · by_cases h2 : m < 0
    · go_enter Try.func20, Try.ntmps20
      go_wp2
      go_ret
      exact ⟨rfl, (by repeat (first | (with_reducible exact Below.refl _ _) | (with_reducible assumption) | (with_reducible refine Below.drew ?_) | (with_reducible refine Below.alloc ?_ ?_ _) | (with_reducible refine Below.setCell ?_ ?_ _) | (with_reducible refine Below.trans ?_ (Below.mono hb ?_)) | (with_reducible refine Below.trans ?_ (Below.mono hb1 ?_)) | (with_reducible refine Below.trans ?_ (Below.mono hb2 ?_)) | (with_reducible refine Below.trans ?_ (Below.mono hb3 ?_)) | (with_reducible refine Below.trans ?_ (Below.mono hb4 ?_)) | (with_reducible refine Below.trans ?_ (Below.mono hb5 ?_)) | (with_reducible refine Below.trans ?_ (Below.mono hb6 ?_)) | (with_reducible refine Below.trans ?_ (Below.mono hb7 ?_)) | (with_reducible refine Below.trans ?_ (Below.mono hb8 ?_)) | (with_reducible refine Below.trans ?_ (Below.mono hb9 ?_)) | (focus (first | omega | (simp; done) | (simp; omega))) | exact hB))⟩
    · have h3 : 4294967296 ≤ m := by omega
      clear h
      go_enter Try.func20, Try.ntmps20
      go_wp2
      go_ret
      exact ⟨rfl, (by repeat (first | (with_reducible exact Below.refl _ _) | (with_reducible assumption) | (with_reducible refine Below.drew ?_) | (with_reducible refine Below.alloc ?_ ?_ _) | (with_reducible refine Below.setCell ?_ ?_ _) | (with_reducible refine Below.trans ?_ (Below.mono hb ?_)) | (with_reducible refine Below.trans ?_ (Below.mono hb1 ?_)) | (with_reducible refine Below.trans ?_ (Below.mono hb2 ?_)) | (with_reducible refine Below.trans ?_ (Below.mono hb3 ?_)) | (with_reducible refine Below.trans ?_ (Below.mono hb4 ?_)) | (with_reducible refine Below.trans ?_ (Below.mono hb5 ?_)) | (with_reducible refine Below.trans ?_ (Below.mono hb6 ?_)) | (with_reducible refine Below.trans ?_ (Below.mono hb7 ?_)) | (with_reducible refine Below.trans ?_ (Below.mono hb8 ?_)) | (with_reducible refine Below.trans ?_ (Below.mono hb9 ?_)) | (focus (first | omega | (simp; done) | (simp; omega))) | exact hB))⟩
theorem asked_shape (A B C : Option Addr) (n1 n2 n3 cp cq cr : Nat) (r m : Int) (w : World) (hr : 0 ≤ r) (hm : 0 ≤ m) (hm1 : m < 4294967296) (h1 : n1 ≤ 65536) (h2 : n2 ≤ 65536) (h3 : n3 ≤ 65536) (h : n1 ≠ n3 ∨ n2 ≠ n3) :
    Calls Try.prog 20 #[.int .i64 r, .int .i64 m, .agg #[.slice A n1 cp, .slice B n2 cq], .slice C n3 cr] w fun e w' => e = .returned (.int .i64 40) ∧ Below w.heap.size w w' := by
  have hm0 : ((max (max n1 n2) n3 : Nat) : Int) ≤ 65536 := by omega
  by_cases h4 : n1 = n3
  · subst h4
    have h5 : ¬ (n2 : Int) = n1 := by omega
    clear h
    go_enter Try.func20, Try.ntmps20
    go_wp2
    all_goals
      go_ret
      exact ⟨rfl, (by repeat (first | (with_reducible exact Below.refl _ _) | (with_reducible assumption) | (with_reducible refine Below.drew ?_) | (with_reducible refine Below.alloc ?_ ?_ _) | (with_reducible refine Below.setCell ?_ ?_ _) | (with_reducible refine Below.trans ?_ (Below.mono hb ?_)) | (with_reducible refine Below.trans ?_ (Below.mono hb1 ?_)) | (with_reducible refine Below.trans ?_ (Below.mono hb2 ?_)) | (with_reducible refine Below.trans ?_ (Below.mono hb3 ?_)) | (with_reducible refine Below.trans ?_ (Below.mono hb4 ?_)) | (with_reducible refine Below.trans ?_ (Below.mono hb5 ?_)) | (with_reducible refine Below.trans ?_ (Below.mono hb6 ?_)) | (with_reducible refine Below.trans ?_ (Below.mono hb7 ?_)) | (with_reducible refine Below.trans ?_ (Below.mono hb8 ?_)) | (with_reducible refine Below.trans ?_ (Below.mono hb9 ?_)) | (focus (first | omega | (simp; done) | (simp; omega))) | exact hB))⟩
  · have h5 : ¬ (n1 : Int) = n3 := by omega
    clear h
    go_enter Try.func20, Try.ntmps20
    go_wp2
    all_goals
      go_ret
      exact ⟨rfl, (by repeat (first | (with_reducible exact Below.refl _ _) | (with_reducible assumption) | (with_reducible refine Below.drew ?_) | (with_reducible refine Below.alloc ?_ ?_ _) | (with_reducible refine Below.setCell ?_ ?_ _) | (with_reducible refine Below.trans ?_ (Below.mono hb ?_)) | (with_reducible refine Below.trans ?_ (Below.mono hb1 ?_)) | (with_reducible refine Below.trans ?_ (Below.mono hb2 ?_)) | (with_reducible refine Below.trans ?_ (Below.mono hb3 ?_)) | (with_reducible refine Below.trans ?_ (Below.mono hb4 ?_)) | (with_reducible refine Below.trans ?_ (Below.mono hb5 ?_)) | (with_reducible refine Below.trans ?_ (Below.mono hb6 ?_)) | (with_reducible refine Below.trans ?_ (Below.mono hb7 ?_)) | (with_reducible refine Below.trans ?_ (Below.mono hb8 ?_)) | (with_reducible refine Below.trans ?_ (Below.mono hb9 ?_)) | (focus (first | omega | (simp; done) | (simp; omega))) | exact hB))⟩
theorem own_rd {B : Nat} {w : World} {u : Option Nat} {v : Value} {f : Nat → Int} {n : Nat} (h : OwnF B w v (rowI f n)) (hB : ∀ g, u = some g → g < B) : ∃ A c, v = .slice A n c ∧ Rd w u A n (rowI f n) := by
  have := h.rd hB
  rwa [rowI_length] at this
theorem OwnF.setBelow {B : Nat} {w : World} {v : Value} {xs : List Int} (h : OwnF B w v xs) {p : Addr} (hp : p.block < B) (x : Value) : OwnF B (w.setCell p x) v xs :=
  ownsRow_setCell_other h (fun e => by have := (World.ownsRow.lt h _ e).1; omega) x
/-- The outer's three rows. -/
def obV (m : Int) (ob g : List Int) (n : Nat) : List Int := rowI (axV m ob g) n
def odV (m : Int) (ob g : List Int) (n : Nat) : List Int := rowI (axV m (obV m ob g n) g) n
def opV (r m : Int) (op ob g : List Int) (n : Nat) : List Int := rowI (axV (-r) (odV m ob g n) op) n
def ocN (r m : Int) (op ob g : List Int) (n : Nat) : Int := cntI (axV m ob g) n + cntI (axV m (obV m ob g n) g) n + cntI (axV (-r) (odV m ob g n) op) n
/-- An outer of the call's own. -/
def GotO (w : World) (U : Value) (u : Option Nat) (c : Int) (ps bs : List Int) (m : Int) (e : Ending) (w' : World) : Prop :=
  ∃ V V', e = .returned (.tuple #[.agg #[V, V'], .int .i64 0]) ∧ OwnF w.heap.size w' V ps ∧ OwnF w.heap.size w' V' bs ∧ w.grownBy w' u ∧ Unt w' U u (c + m)
set_option maxHeartbeats 1000000 in
theorem ostep_any (A B C : Option Addr) (n cp cq cr : Nat) (op ob g : List Int) (U : Value) (u : Option Nat) (c r m : Int) (w : World) (hr : 0 ≤ r) (hr1 : r < 9223372036854775808) (hm : 0 ≤ m) (hm1 : m < 4294967296) (hn : n ≤ 65536)
    (hp : All64 op) (hb0 : All64 ob) (hg0 : All64 g) (hA : Rd w u A n op) (hB0 : Rd w u B n ob) (hC : Rd w u C n g) (hU : Unt w U u c) (hc0 : 0 ≤ c) (hc : c < 800000000) :
    Calls Try.prog 10 #[U, .int .i64 r, .int .i64 m, .agg #[.slice A n cp, .slice B n cq], .slice C n cr] w (GotO w U u c (opV r m op ob g n) (obV m ob g n) (ocN r m op ob g n)) := by
  have hmf : ∀ (fn : Fn) (first cap : Array Value) (w : World), (Instr.makeFunc fn first cap).run Try.prog w = .ok (.func fn first cap) w := fun _ _ _ _ => rfl
  have hul := hU.lt
  have hk : In64 m := by unfold In64; omega
  have hk2 : In64 (-r) := by unfold In64; omega
  have AS := Lib.hid (fun W => asked_ok A B C n cp cq cr r m W hr hm hm1 hn)
  go_enter Try.func10, Try.ntmps10
  go_wp2_with (go_at_call 20; refine (AS.out _).mono ?_; rintro e w1 ⟨rfl, hb1⟩; obtain ⟨hc1, hf1, hz1⟩ := bcell hb1; (try simp at hz1); (try have : w.heap.size < w1.heap.size := by omega); (try have : w.heap.size + 1 < w1.heap.size := by omega); (try have : w.heap.size + 1 + 1 < w1.heap.size := by omega); (try have : w.heap.size + 1 + 1 + 1 < w1.heap.size := by omega); (try have : g < w1.heap.size := by omega); (try have : ga < w1.heap.size := by omega); (try have : gb < w1.heap.size := by omega); (try have : gc < w1.heap.size := by omega); have hB : Below w.heap.size w w1 := (by repeat (first | (with_reducible exact Below.refl _ _) | (with_reducible assumption) | (with_reducible refine Below.drew ?_) | (with_reducible refine Below.alloc ?_ ?_ _) | (with_reducible refine Below.setCell ?_ ?_ _) | (with_reducible refine Below.trans ?_ (Below.mono hb ?_)) | (with_reducible refine Below.trans ?_ (Below.mono hb1 ?_)) | (with_reducible refine Below.trans ?_ (Below.mono hb2 ?_)) | (with_reducible refine Below.trans ?_ (Below.mono hb3 ?_)) | (with_reducible refine Below.trans ?_ (Below.mono hb4 ?_)) | (with_reducible refine Below.trans ?_ (Below.mono hb5 ?_)) | (with_reducible refine Below.trans ?_ (Below.mono hb6 ?_)) | (with_reducible refine Below.trans ?_ (Below.mono hb7 ?_)) | (with_reducible refine Below.trans ?_ (Below.mono hb8 ?_)) | (with_reducible refine Below.trans ?_ (Below.mono hb9 ?_)) | (focus (first | omega | (simp; done) | (simp; omega))) | exact hB)))
  have e0 : w1.cell? ⟨w.heap.size, 0, none⟩ = some U := by simp [*, go_sem]; exact hU.one
  have e1 : w1.cell? ⟨w.heap.size + 1, 0, none⟩ = some (.slice A n cp) := by simp [*, go_sem]
  have e2 : w1.cell? ⟨w.heap.size + 1, 1, none⟩ = some (.slice B n cq) := by simp [*, go_sem]
  have e3 : w1.heap[w.heap.size + 1 + 1]? = some (.cells #[.slice none 0 0, .slice none 0 0] 28 (0, 0)) := by
    rw [hb1.block _ (by simp)]
    exact newest_at _ _ (by simp)
  have k0 : w.heap.size + 1 + 1 < w1.heap.size := lt_of_block e3
  have n0 : some w.heap.size ≠ u := fun e => by have := hul _ e.symm; omega
  have n1 : some (w.heap.size + 1) ≠ u := fun e => by have := hul _ e.symm; omega
  have n2 : some (w.heap.size + 1 + 1) ≠ u := fun e => by have := hul _ e.symm; omega
  have hul1 : ∀ g, u = some g → g < w1.heap.size := fun g e => by have := hul g e; omega
  clear hc1 hf1 AS
  -- the first row
  have q1 := cntI_bound (axV m ob g) n
  have q2 := cntI_bound (axV m (obV m ob g n) g) n
  refine (row_any B C n cq cr _ ob g U u c m w1 hk hb0 hg0 hn e0 (hB0.call hB) (hC.call hB) (hU.call hB) hc0 (by omega)).mono ?_
  rintro e w2 ⟨V2, rfl, hO2, hG2, hV2⟩
  obtain ⟨A2, c2, rfl, hR2⟩ := own_rd hO2 hul1
  have z2 := hG2.size
  have f0 : w2.cell? ⟨w.heap.size, 0, none⟩ = some U := (gr_cell hG2 (by omega) n0).trans e0
  have f1 : w2.cell? ⟨w.heap.size + 1, 0, none⟩ = some (.slice A n cp) := (gr_cell hG2 (by omega) n1).trans e1
  have f3 : w2.heap[w.heap.size + 1 + 1]? = some (.cells #[.slice none 0 0, .slice none 0 0] 28 (0, 0)) := (hG2.block _ (by omega) n2).trans e3
  have hC2 := (hC.call hB).grown hG2
  have hA2 := (hA.call hB).grown hG2
  have hul2 : ∀ g, u = some g → g < w2.heap.size := fun g e => by have := hul1 g e; omega
  go_wp2_with fail
  -- the second
  refine (row_any A2 C n c2 cr _ (obV m ob g n) g U u _ m w2 hk (rowI_all _ _) hg0 hn f0 hR2 hC2 hV2 (by omega) (by omega)).mono ?_
  rintro e w3 ⟨V3, rfl, hO3, hG3, hV3⟩
  obtain ⟨A3, c3, rfl, hR3⟩ := own_rd hO3 hul2
  have z3 := hG3.size
  have g0 : w3.cell? ⟨w.heap.size, 0, none⟩ = some U := (gr_cell hG3 (by omega) n0).trans f0
  have g1 : w3.cell? ⟨w.heap.size + 1, 0, none⟩ = some (.slice A n cp) := (gr_cell hG3 (by omega) n1).trans f1
  have g3 : w3.heap[w.heap.size + 1 + 1]? = some (.cells #[.slice none 0 0, .slice none 0 0] 28 (0, 0)) := (hG3.block _ (by omega) n2).trans f3
  have hA3 := hA2.grown hG3
  have hO23 := hO2.grown hG3 hul1
  have hul3 : ∀ g, u = some g → g < w3.heap.size := fun g e => by have := hul2 g e; omega
  have hneg : IntKind.i64.wrap (-r) = -r := IntWalk.i64_in _ (by omega)
  clear e0 e1 e2 e3 f0 f1 f3
  go_wp2_with fail
  -- the third
  refine (row_any A3 A n c3 cp _ (odV m ob g n) op U u _ (-r) w3 hk2 (rowI_all _ _) hp hn g0 hR3 hA3 hV3 (by omega) (by omega)).mono ?_
  rintro e w4 ⟨V4, rfl, hO4, hG4, hV4⟩
  have hO24 := hO23.grown hG4 hul1
  have z4 := hG4.size
  have h3 : w4.heap[w.heap.size + 1 + 1]? = some (.cells #[.slice none 0 0, .slice none 0 0] 28 (0, 0)) := (hG4.block _ (by omega) n2).trans g3
  have c40 : w4.cell? ⟨w.heap.size + 1 + 1, 0, none⟩ = some (.slice none 0 0) := by simp [World.cell?, h3]
  have c41 : w4.cell? ⟨w.heap.size + 1 + 1, 1, none⟩ = some (.slice none 0 0) := by simp [World.cell?, h3]
  have f40 : w4.frozen? ⟨w.heap.size + 1 + 1, 0, none⟩ = false := by simp [World.frozen?, h3]
  have f41 : w4.frozen? ⟨w.heap.size + 1 + 1, 1, none⟩ = false := by simp [World.frozen?, h3]
  obtain ⟨A4, c4, rfl, _⟩ := own_rd hO4 hul3
  have G1 : w.grownBy w4 u := gr_trans (gr_below hB u) (gr_trans hG2 (gr_trans hG3 hG4))
  have BB : Below (w.heap.size + 1 + 1) w4 ((w4.setCell ⟨w.heap.size + 1 + 1, 0, none⟩ (.slice A4 n c4)).setCell ⟨w.heap.size + 1 + 1, 1, none⟩ (.slice A2 n c2)) :=
    ((Below.refl _ _).setCell (p := ⟨w.heap.size + 1 + 1, 0, none⟩) (Nat.le_refl _) _).setCell (p := ⟨w.heap.size + 1 + 1, 1, none⟩) (Nat.le_refl _) _
  have P1 : OwnF w.heap.size ((w4.setCell ⟨w.heap.size + 1 + 1, 0, none⟩ (.slice A4 n c4)).setCell ⟨w.heap.size + 1 + 1, 1, none⟩ (.slice A2 n c2)) (.slice A4 n c4) (opV r m op ob g n) :=
    ((hO4.base (B := w1.heap.size) (by omega)).setBelow (by show w.heap.size + 1 + 1 < _; omega) _ |>.setBelow (by show w.heap.size + 1 + 1 < _; omega) _).base (by omega)
  have P2 : OwnF w.heap.size ((w4.setCell ⟨w.heap.size + 1 + 1, 0, none⟩ (.slice A4 n c4)).setCell ⟨w.heap.size + 1 + 1, 1, none⟩ (.slice A2 n c2)) (.slice A2 n c2) (obV m ob g n) :=
    (hO24.setBelow (by show w.heap.size + 1 + 1 < _; omega) _ |>.setBelow (by show w.heap.size + 1 + 1 < _; omega) _).base (by omega)
  have G2 := gr_low G1 (BB.mono (by omega))
  have V2 := hV4.low BB (fun g e => by have := hul g e; omega)
  have hcount : c + ocN r m op ob g n = c + cntI (axV m ob g) n + cntI (axV m (obV m ob g n) g) n + cntI (axV (-r) (odV m ob g n) op) n := by unfold ocN; omega
  rw [← hcount] at V2
  clear hO2 hO3 hO4 hO23 hO24 hG2 hG3 hG4 hV2 hV3 hV4 G1 BB h3 g0 g1 g3 hcount hR2 hR3 hA2 hA3 hC2 hB
  go_wp2
  exact bodyPost_ret (v := .tuple #[.agg #[.slice A4 n c4, .slice A2 n c2], .int .i64 0]) (by simp [*, results, Try.results10, go_sem]) rfl ⟨_, _, rfl, P1, P2, G2, V2⟩
end Go.Proofs.Ytcdnkecgnfdfnaa
