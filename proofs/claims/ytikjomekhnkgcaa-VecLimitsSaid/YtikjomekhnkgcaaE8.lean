import Derived.Test.YtikjomekhnkgcaaD6
/- The matrix of all products: the code's. -/
namespace Go.Proofs.Ytikjomekhnkgcaa
open Go.RowKit
attribute [local go_sem ↓] Go.wp_at_zero Go.wp_at_succ

def outL (xs ys : List Int) (m : Nat) : Nat → List Int
  | 0 => []
  | k + 1 => outL xs ys m k ++ rowI (mulV (xs.getD k 0) ys) m
def outC (xs ys : List Int) (m : Nat) : Nat → Int
  | 0 => 0
  | k + 1 => outC xs ys m k + cntI (mulV (xs.getD k 0) ys) m
theorem outL_len (xs ys : List Int) (m k : Nat) : (outL xs ys m k).length = k * m := by
  induction k with
  | zero => simp [outL]
  | succ i ih => unfold outL; rw [List.length_append, ih, rowI_length, Nat.succ_mul]
theorem outC_bd (xs ys : List Int) (m k : Nat) : 0 ≤ outC xs ys m k ∧ outC xs ys m k ≤ ((k * m : Nat) : Int) := by
  induction k with
  | zero => simp [outC]
  | succ i ih => have := cntI_bound (mulV (xs.getD i 0) ys) m; unfold outC; rw [Nat.succ_mul, Int.natCast_add]; omega
theorem own_rd4 {B n : Nat} {w : World} {V : Value} {xs : List Int} (h : OwnF B w V xs) (hl : xs.length = n) : ∃ A c, V = .slice A n c ∧ Rd w none A n xs := by
  subst hl
  obtain ⟨A, c, e, hr⟩ := own_apart (S := fun _ => False) h fun g _ hs => hs
  exact ⟨A, c, e, hr.none_⟩
theorem own_km {B n : Nat} {w : World} {V : Value} {xs : List Int} (h : OwnF B w V xs) (hl : xs.length = n) : w.ownsRow B 28 1 V n (xs.map iv) := by
  unfold OwnF at h; rwa [hl] at h
/-- What stands behind k rows of products. -/
def OUT (w wr : World) (T : Nat) (U : Value) (u : Option Nat) (c : Int) (n m : Nat) (xs ys : List Int) (k : Nat) (V : Value) : Prop :=
  wr.heap[T]? = some (.cells #[.int .i64 n, .int .i64 m, V] 24 (0, 0)) ∧ OwnF (T + 1) wr V (outL xs ys m k) ∧ w.grownBy wr u ∧ Unt wr U u (c + outC xs ys m k) ∧
    wr.heap[w.heap.size]? = some (.cells #[U] 36 (0, 0)) ∧ wr.heap[w.heap.size + 1]? = some (.cells #[.int .i64 0, .int .i64 0, .slice none 0 0] 24 (0, 0)) ∧ w.heap.size + 1 < T
theorem OUT.next {w wr y1 w5 : World} {T : Nat} {U : Value} {u : Option Nat} {c : Int} {n m : Nat} {xs ys : List Int} {k : Nat} {V v' : Value} {x : Int} {a0 a1 a2 : Value}
    (hT : wr.heap[T]? = some (.cells #[.int .i64 n, .int .i64 m, V] 24 (0, 0))) (hO : OwnF (T + 1) wr V (outL xs ys m k)) (hG : w.grownBy wr u) (hU : wr.heap[w.heap.size]? = some (.cells #[U] 36 (0, 0)))
    (hR : wr.heap[w.heap.size + 1]? = some (.cells #[.int .i64 0, .int .i64 0, .slice none 0 0] 24 (0, 0))) (hwT : w.heap.size + 1 < T) (hul : ∀ g, u = some g → g < w.heap.size) (hg1 : wr.drew.grownBy y1 u) (hU1 : Unt y1 U u (c + outC xs ys m k + cntI (mulV x ys) m))
    (hown : w5.ownsRow (T + 1) 28 1 v' (k * m + m) ((outL xs ys m k).map iv ++ (rowI (mulV x ys) m).map iv)) (hg5 : y1.grownBy w5 V.ownBlock) (b5 : w5.heap[T]? = some (.cells #[a0, a1, a2] 24 (0, 0))) (hx : x = xs.getD k 0) (e0 : a0 = .int .i64 n := by rfl) (e1 : a1 = .int .i64 m := by rfl) :
    OUT w (w5.setCell ⟨T, 2, none⟩ v') T U u c n m xs ys (k + 1) v' := by
  subst hx e0 e1
  have hv : ∀ q, V.ownBlock = some q → T + 1 ≤ q := fun q e => (World.ownsRow.lt (own_km hO (outL_len _ _ _ _)) q e).1
  have lT := lt_of_block hT
  have hg1' : wr.grownBy y1 u := gr_trans (gr_drew (World.grownBy.refl wr u)) hg1
  have hb5 : Below (T + 1) y1 w5 := ⟨hg5.os, hg5.tape, hg5.output, hg5.size, fun j hj => hg5.block j (by have := hg1'.size; omega) (fun e => by have := hv j e.symm; omega)⟩
  have nU : ∀ j, w.heap.size ≤ j → some j ≠ u := fun j hj e => by have := hul j e.symm; omega
  refine ⟨hp3_2 _ b5, ?_, ?_, ?_, ?_, ?_, hwT⟩
  · refine OwnF.setBelow ?_ (show T < T + 1 by omega) _
    unfold OwnF outL
    rw [List.length_append, outL_len, rowI_length, List.map_append]
    exact hown
  · exact gr_set (gr_low (gr_trans hG hg1') (hb5.mono (by omega))) (show w.heap.size ≤ T by omega) _
  · refine Unt.setc ?_ (fun g e => by have := hul g e; show g ≠ T; omega) _
    unfold outC
    rw [← Int.add_assoc]
    exact hU1.low hb5 (fun g e => by have := hul g e; omega)
  · exact hp_set ((hb5.block _ (by omega)).trans (hp_grown hU hg1' (nU _ (Nat.le_refl _)))) (show w.heap.size ≠ T by omega) _
  · exact hp_set ((hb5.block _ (by omega)).trans (hp_grown hR hg1' (nU _ (by omega)))) (show w.heap.size + 1 ≠ T by omega) _
set_option maxHeartbeats 4000000 in
set_option maxHeartbeats 4000000 in
set_option maxRecDepth 100000 in
theorem vouter_any (A B : Option Addr) (n m cp cq : Nat) (xs ys : List Int) (U : Value) (u : Option Nat) (c : Int) (w : World) (hxs : All64 xs) (hys : All64 ys) (hn : n ≤ 200) (hm : m ≤ 200) (hn0 : 0 < n) (hm0 : 0 < m)
    (hx : Rd w u A n xs) (hy : Rd w u B m ys) (hU : Unt w U u c) (hc0 : 0 ≤ c) (hc : c < 900000000) :
    Calls Try.prog 27 #[U, .slice A n cp, .slice B m cq] w fun e w' => ∃ V, e = .returned (.tuple #[.agg #[.int .i64 n, .int .i64 m, V], .int .i64 0]) ∧ OwnF w.heap.size w' V (outL xs ys m n) ∧ w.grownBy w' u ∧ Unt w' U u (c + outC xs ys m n) := by
  have hmf : ∀ (fn : Fn) (first cap : Array Value) (w : World), (Instr.makeFunc fn first cap).run Try.prog w = .ok (.func fn first cap) w := fun _ _ _ _ => rfl
  have hul := hU.lt
  have hnm : n * m ≤ 40000 := by
    have := Nat.mul_le_mul hn hm
    omega
  obtain ⟨p, hp⟩ : ∃ p, p = n * m := ⟨_, rfl⟩
  have hp1 : (n : Int) * (m : Int) = (p : Int) := by rw [hp, Int.natCast_mul]
  have i1 : IntKind.i64.wrap ((n : Int) * (m : Int)) = (p : Int) := by rw [hp1]; exact IntWalk.i64_in _ (by omega)
  have i2 : decide ((65536 : Int) < (p : Int)) = false := decide_eq_false (by omega)
  have e1 : ((n : Int) == 0) = false := beq_eq_false_iff_ne.mpr (by omega)
  have e2 : ((m : Int) == 0) = false := beq_eq_false_iff_ne.mpr (by omega)
  have FI := Lib.hid (fun W g hS => fits_yes g 0 2 2 (fun j => if j = 0 then A else B) (fun j => if j = 0 then n else m) (fun j => if j = 0 then cp else cq) W (by omega) hS (by intro j _; split <;> omega))
  have HX := Lib.hid hx
  have HY := Lib.hid hy
  have HU := Lib.hid hU
  have HNM := Lib.hid hnm
  obtain ⟨pU, rfl⟩ := hU.ptr
  clear hp hp1 hx hy hU hnm
  go_enter Try.func27, Try.ntmps27
  go_wp2_with (go_at_call 48; refine (FI.out _ _ (by intro j hj; match j, hj with | 0, _ => exact cell_of_row _ _ 0 _ _ _ (newest_at _ _ (by simp)) | 1, _ => exact cell_of_row _ _ 1 _ _ _ (newest_at _ _ (by simp)))).mono ?_; rintro e w1 ⟨rfl, rfl⟩)
  refine at_world fun W1 hW1 => ?_
  have HI : OUT w W1 (w.heap.size + 3) (.pointer pU) u c n m xs ys 0 (.slice none 0 0) := by
    subst hW1
    refine ⟨newest_at _ _ (by simp), World.ownsRow_nil _ _ _ _, gr_below (by repeat (first | (with_reducible exact Below.refl _ _) | (with_reducible assumption) | (with_reducible refine Below.drew ?_) | (with_reducible refine Below.alloc ?_ ?_ _) | (with_reducible refine Below.setCell ?_ ?_ _) | (with_reducible refine Below.trans ?_ (Below.mono hb ?_)) | (with_reducible refine Below.trans ?_ (Below.mono hb1 ?_)) | (with_reducible refine Below.trans ?_ (Below.mono hb2 ?_)) | (with_reducible refine Below.trans ?_ (Below.mono hb3 ?_)) | (with_reducible refine Below.trans ?_ (Below.mono hb4 ?_)) | (with_reducible refine Below.trans ?_ (Below.mono hb5 ?_)) | (with_reducible refine Below.trans ?_ (Below.mono hb6 ?_)) | (with_reducible refine Below.trans ?_ (Below.mono hb7 ?_)) | (with_reducible refine Below.trans ?_ (Below.mono hb8 ?_)) | (with_reducible refine Below.trans ?_ (Below.mono hb9 ?_)) | (focus (first | omega | (simp; done) | (simp; omega))) | exact hB)) u, ?_, ?_, ?_, by omega⟩
    · rw [show outC xs ys m 0 = 0 from rfl, Int.add_zero]
      exact HU.out.call (by repeat (first | (with_reducible exact Below.refl _ _) | (with_reducible assumption) | (with_reducible refine Below.drew ?_) | (with_reducible refine Below.alloc ?_ ?_ _) | (with_reducible refine Below.setCell ?_ ?_ _) | (with_reducible refine Below.trans ?_ (Below.mono hb ?_)) | (with_reducible refine Below.trans ?_ (Below.mono hb1 ?_)) | (with_reducible refine Below.trans ?_ (Below.mono hb2 ?_)) | (with_reducible refine Below.trans ?_ (Below.mono hb3 ?_)) | (with_reducible refine Below.trans ?_ (Below.mono hb4 ?_)) | (with_reducible refine Below.trans ?_ (Below.mono hb5 ?_)) | (with_reducible refine Below.trans ?_ (Below.mono hb6 ?_)) | (with_reducible refine Below.trans ?_ (Below.mono hb7 ?_)) | (with_reducible refine Below.trans ?_ (Below.mono hb8 ?_)) | (with_reducible refine Below.trans ?_ (Below.mono hb9 ?_)) | (focus (first | omega | (simp; done) | (simp; omega))) | exact hB))
    · exact hp_alloc (hp_alloc (hp_alloc (heap_alloc_new w _) _) _) _
    · exact hp_alloc (hp_alloc (newest_at (w.alloc _) _ (World.size_alloc _ _).symm) _) _
  clear hW1
  obtain ⟨T, hT⟩ : ∃ T, T = w.heap.size + 3 := ⟨_, rfl⟩
  have hT2 : w.heap.size + 1 + 1 + 1 = T := by omega
  rw [← hT] at HI
  rw [hT2]
  clear hT hT2
  go_loopw [43] (fun i wr => ∃ k : Nat, k ≤ n ∧ i = .int .i64 k ∧ ∃ V, OUT w wr T (.pointer pU) u c n m xs ys k V) (fun i _ => n - (intOf i).toNat)
  case atStart => exact ⟨0, Nat.zero_le _, rfl, _, HI⟩
  case round =>
    clear HI
    obtain ⟨k, hk, rfl, V, bT, hO, hG, hV, bU, bR, hwT⟩ := hrel
    have lT := lt_of_block bT
    have hcb := outC_bd xs ys m k
    by_cases hlt : k < n
    · obtain ⟨b1, o1, rfl, l1, _, c1⟩ := (HX.out.grown hG).2 (by omega)
      replace c1 := c1 k hlt
      have ia : (0 : Int) ≤ (k : Int) := by omega
      have ib : (k : Int) < (n : Int) := by omega
      have hkm : k * m + m ≤ 40000 := by
        have h1 : (k + 1) * m ≤ n * m := Nat.mul_le_mul_right m (by omega)
        have h2 := HNM.out
        rw [Nat.succ_mul] at h1
        omega
      have x64 := hxs k
      obtain ⟨x, hxv⟩ : ∃ x, x = xs.getD k 0 := ⟨_, rfl⟩
      rw [← hxv] at c1 x64
      have HXV := Lib.hid hxv
      clear hxv
      go_wp2_with fail
      refine at_world fun W2 hW2 => ?_
      have BW2 : Below wr.heap.size wr W2 := by subst hW2; exact (Below.refl _ _).alloc (Nat.le_refl _) _
      have bx : W2.heap[wr.heap.size]? = some (.cells #[.int .i64 x] 28 (0, 0)) := by subst hW2; exact heap_alloc_new wr _
      have bT2 := hp_call bT BW2
      have bU2 := hp_call bU BW2
      have bR2 := hp_call bR BW2
      have hO2 : OwnF (T + 1) W2 V (outL xs ys m k) := OwnF.low hO BW2
      have hG2 := gr_call hG BW2
      have hV2 := hV.call BW2
      have rY2 := HY.out.grown hG2
      clear hW2 bT bU bR hO hG hV BW2 c1 l1
      generalize wr.heap.size = P at *
      have t2 := cell_of_row W2 T 2 _ _ _ bT2
      have u0 := cell_of_row W2 w.heap.size 0 _ _ _ bU2
      have x0 := cell_of_row W2 P 0 _ _ _ bx
      simp only [List.getElem?_toArray, List.getElem?_cons_zero, List.getElem?_cons_succ] at t2 u0 x0
      have n3 : some w.heap.size ≠ u := fun e => by have := hul _ e.symm; omega
      have hPu : some P ≠ u := fun e => by have := hul _ e.symm; have := lt_of_block bT2; omega
      have nT : ¬ some T = u := fun e => by have := hul _ e.symm; omega
      have EA := Lib.hid (fun W hr hU' hl h3 h4 => each_otr m cq B ys (mulV x ys) (.pointer pU) u (c + outC xs ys m k) (.pointer (some ⟨w.heap.size, 0, none⟩)) (.pointer (some ⟨P, 0, none⟩)) W (by omega) hr hU' (by omega) (by omega) hl
        (fun i c1 wq hi hG hV h0 h1 => otr1_any i x (ys.getD i 0) c1 _ u _ _ x64 (hys i) wq (mulK hG h3 h4 n3 hPu).1 (mulK hG h3 h4 n3 hPu).2 hV h0 h1))
      have lT2 := lt_of_block bT2
      have lP2 := lt_of_block bx
      have HT2 := Lib.hid bT2
      have HU2 := Lib.hid bU2
      have HR2 := Lib.hid bR2
      clear bT2 bU2 bR2 bx
      have HI0 := Lib.hid (info_parts infoFix)
      have HV := Lib.hid (World.ownsRow.lt (own_km hO2 (outL_len _ _ _ _)))
      go_region_law ((first
        | (go_simp; go_at_call 54; refine (EA.out _ (rY2.drew) (hV2.drew) (fun g hg => Nat.lt_of_lt_of_le (hul g hg) hG2.size) u0 x0).mono ?_; rintro e y1 ⟨V1, rfl, hO1, hg1, hU1⟩; obtain ⟨A1, c1, rfl, r1⟩ := own_rd4 hO1 (rowI_length _ _); have y2 := (gr_cell hg1 (x := T) (o := 2) lT2 nT).trans t2)
        | (obtain ⟨i0, hi, yz0, yz1, yz2⟩ := HI0.out; refine step_app_all (by rfl) _ _ _ (by rfl) (T + 1) 28 i0 (.int .i64 0) Try.underlying22 hi yz0 yz1 yz2 rfl V (k * m) _ (by rfl) (own_km (OwnF.grown (OwnF.drew hO2) hg1 (fun g e => by have := hul g e; omega)) (outL_len _ _ _ _)) none A1 m c1 (rowI (mulV x ys) m) (by rfl) r1 (by omega) (by have := hg1.size; have hz : W2.drew.heap.size = W2.heap.size := rfl; omega) ?_; clear hi yz0 yz1 yz2; intro v' w5 hown5 hg5 _; obtain ⟨g5, c5, rfl, _⟩ := hown5.form (by omega); have bT5 := hp_grown (hp_grown HT2.out (gr_trans (gr_drew (World.grownBy.refl W2 u)) hg1) nT) hg5 (fun e => by have := (HV.out T e.symm).1; omega); have y5 := cell_of_row w5 T 2 _ _ _ bT5; simp only [List.getElem?_toArray, List.getElem?_cons_zero, List.getElem?_cons_succ] at y5; have yf : ∀ i, w5.frozen? ⟨T, i, none⟩ = false := (fun i => by simp [World.frozen?, bT5]); have HB5 := Lib.hid bT5; clear bT5)))
      all_goals
        go_wp2_with fail
        go_roundw
        case rel => exact ⟨k + 1, by omega, by simp, _, OUT.next HT2.out hO2 hG2 HU2.out HR2.out hwT hul hg1 hU1 hown5 hg5 HB5.out HXV.out⟩
        case measure => simp [intOf]; omega
    · obtain rfl : k = n := by omega
      have hkm : 0 < k * m := Nat.mul_pos hn0 hm0
      obtain ⟨gV, cV, rfl, _⟩ := (own_km hO (outL_len _ _ _ _)).form hkm
      have t0 := cell_of_row wr T 0 _ _ _ bT
      have t1 := cell_of_row wr T 1 _ _ _ bT
      have t2 := cell_of_row wr T 2 _ _ _ bT
      have r0 := cell_of_row wr (w.heap.size + 1) 0 _ _ _ bR
      have r1 := cell_of_row wr (w.heap.size + 1) 1 _ _ _ bR
      have r2 := cell_of_row wr (w.heap.size + 1) 2 _ _ _ bR
      have rf : ∀ i, wr.frozen? ⟨w.heap.size + 1, i, none⟩ = false := fun i => by simp [World.frozen?, bR]
      simp only [List.getElem?_toArray, List.getElem?_cons_zero, List.getElem?_cons_succ] at t0 t1 t2 r0 r1 r2
      have lR := lt_of_block bR
      have z1 : ¬ T = w.heap.size + 1 := by omega
      have hO3 : OwnF (T + 1) (((wr.setCell ⟨w.heap.size + 1, 0, none⟩ (.int .i64 k)).setCell ⟨w.heap.size + 1, 1, none⟩ (.int .i64 m)).setCell ⟨w.heap.size + 1, 2, none⟩ (.slice (some ⟨gV, 0, none⟩) (k * m) cV)) (.slice (some ⟨gV, 0, none⟩) (k * m) cV) (outL xs ys m k) :=
        ((OwnF.setBelow hO (show w.heap.size + 1 < T + 1 by omega) _).setBelow (show w.heap.size + 1 < T + 1 by omega) _).setBelow (show w.heap.size + 1 < T + 1 by omega) _
      have hG3 := gr_set (gr_set (gr_set hG (p := ⟨w.heap.size + 1, 0, none⟩) (show w.heap.size ≤ w.heap.size + 1 by omega) (.int .i64 k)) (p := ⟨w.heap.size + 1, 1, none⟩) (show w.heap.size ≤ w.heap.size + 1 by omega) (.int .i64 m)) (p := ⟨w.heap.size + 1, 2, none⟩) (show w.heap.size ≤ w.heap.size + 1 by omega) (.slice (some ⟨gV, 0, none⟩) (k * m) cV)
      have nu : ∀ g, u = some g → g ≠ w.heap.size + 1 := fun g e => by have := hul g e; omega
      have hV3 := ((hV.setc (p := ⟨w.heap.size + 1, 0, none⟩) nu (.int .i64 k)).setc (p := ⟨w.heap.size + 1, 1, none⟩) nu (.int .i64 m)).setc (p := ⟨w.heap.size + 1, 2, none⟩) nu (.slice (some ⟨gV, 0, none⟩) (k * m) cV)
      clear hO hG hV bU bT
      go_wp2_with fail
      exact bodyPost_ret (v := .tuple #[.agg #[.int .i64 k, .int .i64 m, (.slice (some ⟨gV, 0, none⟩) (k * m) cV)], .int .i64 0]) (by simp [*, results, Try.results27, go_sem]) rfl ⟨(.slice (some ⟨gV, 0, none⟩) (k * m) cV), rfl, hO3.base (by omega), hG3, hV3⟩
end Go.Proofs.Ytikjomekhnkgcaa
