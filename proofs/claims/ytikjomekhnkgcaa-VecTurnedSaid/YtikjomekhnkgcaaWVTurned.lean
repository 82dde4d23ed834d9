import Derived.Test.YtikjomekhnkgcaaD5
import Derived.Test.YtikjomekhnkgcaaO2
import Derived.Test.YtikjomekhnkgcaaRowM
/- The law VecTurned, walked. -/
namespace Go.Proofs.Ytikjomekhnkgcaa
open Go.RowKit
attribute [local go_sem ↓] Go.wp_at_zero Go.wp_at_succ

/-! ### sums of what is turned about -/
def sumF (f : Nat → Int) : Nat → Int
  | 0 => 0
  | k + 1 => sumF f k + f k
theorem sumF_congr {f g : Nat → Int} {n : Nat} (h : ∀ k, k < n → f k = g k) : sumF f n = sumF g n := by
  induction n with
  | zero => rfl
  | succ i ih => unfold sumF; rw [ih (fun k hk => h k (by omega)), h i (by omega)]
theorem sumF_add (f : Nat → Int) (a b : Nat) : sumF f (a + b) = sumF f a + sumF (fun k => f (a + k)) b := by
  induction b with
  | zero => show sumF f a = sumF f a + 0; omega
  | succ i ih =>
    show sumF f (a + i) + f (a + i) = sumF f a + (sumF (fun k => f (a + k)) i + f (a + i))
    rw [ih]; omega
theorem sumF_rot {f g : Nat → Int} {n q : Nat} (hq : q ≤ n) (h1 : ∀ k, k < n - q → g k = f (q + k)) (h2 : ∀ j, j < q → g (n - q + j) = f j) : sumF g n = sumF f n := by
  have e1 : sumF g n = sumF g (n - q) + sumF (fun k => g (n - q + k)) q := by rw [← sumF_add, show n - q + q = n by omega]
  have e2 : sumF f n = sumF f q + sumF (fun k => f (q + k)) (n - q) := by rw [← sumF_add, show q + (n - q) = n by omega]
  rw [e1, e2, sumF_congr h1, sumF_congr h2]; omega
theorem totI_sum (xs : List Int) (n : Nat) : totI xs n = sumF (fun k => xs.getD k 0) n := by
  induction n with
  | zero => rfl
  | succ i ih => unfold totI sumF; rw [ih]
theorem dotI_sum (xs ys : List Int) (n : Nat) : dotI xs ys 0 1 n = sumF (fun k => xs.getD k 0 * ys.getD k 0) n := by
  induction n with
  | zero => rfl
  | succ i ih => unfold dotI sumF; rw [ih, Nat.mul_one, Nat.zero_add]
def rotL (xs : List Int) (q : Nat) : List Int := xs.drop q ++ xs.take q
theorem rot_len {xs : List Int} {q : Nat} (hq : q ≤ xs.length) : (rotL xs q).length = xs.length := by
  unfold rotL; rw [List.length_append, List.length_drop, List.length_take]; omega
theorem rot_lo {xs : List Int} {q k : Nat} (hk : k < xs.length - q) : (rotL xs q).getD k 0 = xs.getD (q + k) 0 := by
  unfold rotL
  rw [List.getD_eq_getElem?_getD, List.getD_eq_getElem?_getD, List.getElem?_append_left (by rw [List.length_drop]; exact hk), List.getElem?_drop]
theorem rot_hi {xs : List Int} {q j : Nat} (hj : j < q) : (rotL xs q).getD (xs.length - q + j) 0 = xs.getD j 0 := by
  unfold rotL
  rw [List.getD_eq_getElem?_getD, List.getD_eq_getElem?_getD, List.getElem?_append_right (by rw [List.length_drop]; omega), List.length_drop, show xs.length - q + j - (xs.length - q) = j by omega, List.getElem?_take_of_lt hj]
theorem rot_all {xs : List Int} (h : All64 xs) (q : Nat) (hq : q ≤ xs.length) : All64 (rotL xs q) := by
  intro j
  rcases Nat.lt_or_ge j (xs.length - q) with h1 | h1
  · rw [rot_lo h1]; exact h _
  · rcases Nat.lt_or_ge (j - (xs.length - q)) q with h2 | h2
    · rw [show j = xs.length - q + (j - (xs.length - q)) by omega, rot_hi h2]; exact h _
    · have e : (rotL xs q).getD j 0 = 0 := by rw [List.getD_eq_getElem?_getD, List.getElem?_eq_none (by rw [rot_len hq]; omega)]; rfl
      rw [e]; unfold In64; omega
theorem tot_rot {xs : List Int} {n q : Nat} (hl : xs.length = n) (hq : q ≤ n) : totI (rotL xs q) n = totI xs n := by
  subst hl
  rw [totI_sum, totI_sum]
  exact sumF_rot hq (fun k hk => rot_lo hk) (fun j hj => rot_hi hj)
theorem dot_rot {xs ys : List Int} {n q : Nat} (hl : xs.length = n) (hl2 : ys.length = n) (hq : q ≤ n) : dotI (rotL ys q) (rotL xs q) 0 1 n = dotI xs ys 0 1 n := by
  subst hl
  rw [dotI_sum, dotI_sum]
  refine sumF_rot hq (fun k hk => ?_) (fun j hj => ?_)
  · rw [rot_lo hk, rot_lo (by rw [hl2]; exact hk), Int.mul_comm]
  · have e := rot_hi (xs := ys) hj
    rw [hl2] at e
    rw [rot_hi hj, e, Int.mul_comm]
/-! ### parts of rows -/
theorem rd_tail {w : World} {u : Option Nat} {b off n : Nat} {xs : List Int} (h : Rd w u (some ⟨b, off, none⟩) n xs) (q : Nat) (hn : 0 < n) (hq : q ≤ n) : Rd w u (some ⟨b, off + q, none⟩) (n - q) (xs.drop q) := by
  refine ⟨by rw [List.length_drop, h.1], fun hm0 => ?_⟩
  obtain ⟨b', off', e, hb, hne, hc⟩ := h.2 hn
  injection e with e
  injection e with e1 e2 _
  subst e1 e2
  refine ⟨b, off + q, rfl, hb, hne, fun j hj => ?_⟩
  have := hc (q + j) (by omega)
  rw [← Nat.add_assoc] at this
  rw [this, List.getD_eq_getElem?_getD, List.getD_eq_getElem?_getD, List.getElem?_drop]
theorem rd_head {w : World} {u : Option Nat} {b off n : Nat} {xs : List Int} (h : Rd w u (some ⟨b, off, none⟩) n xs) (q : Nat) (hn : 0 < n) (hq : q ≤ n) : Rd w u (some ⟨b, off, none⟩) q (xs.take q) := by
  refine ⟨by rw [List.length_take, h.1]; omega, fun hm0 => ?_⟩
  obtain ⟨b', off', e, hb, hne, hc⟩ := h.2 hn
  injection e with e
  injection e with e1 e2 _
  subst e1 e2
  refine ⟨b, off, rfl, hb, hne, fun j hj => ?_⟩
  rw [hc j (by omega), List.getD_eq_getElem?_getD, List.getD_eq_getElem?_getD, List.getElem?_take_of_lt hj]
theorem gr_own {B n : Nat} {E : TypeId} {a w : World} {V : Value} {ys : List Value} (hO : a.ownsRow B E 1 V n ys) (hg : a.grownBy w V.ownBlock) (hB : B ≤ a.heap.size) : Below B a w :=
  ⟨hg.os, hg.tape, hg.output, hg.size, fun k hk => hg.block k (by omega) (fun e => by have := (World.ownsRow.lt hO k e.symm).1; omega)⟩
theorem own_rot {B : Nat} {w : World} {V : Value} {xs : List Int} {n q m : Nat} (h : w.ownsRow B 28 1 V (0 + m + q) ([] ++ (xs.drop q).map iv ++ (xs.take q).map iv)) (hl : xs.length = n) (hm : m = n - q) (hq : q ≤ n) : ∃ A c, V = .slice A n c ∧ Rd w none A n (rotL xs q) := by
  subst hl hm
  rw [List.nil_append, ← List.map_append, show 0 + (xs.length - q) + q = (rotL xs q).length by rw [rot_len hq]; omega] at h
  obtain ⟨A, c, e, hr⟩ := own_apart (S := fun _ => False) h fun g _ hs => hs
  rw [rot_len hq] at e hr
  exact ⟨A, c, e, hr.none_⟩

set_option maxHeartbeats 4000000 in
set_option maxRecDepth 100000 in
theorem vturned_main (b off b2 off2 n cp cq t : Nat) (xs ys : List Int) (w : World) (hn : n ≤ 200) (hn0 : 0 < n) (ht : (t : Int) < 9223372036854775808) (hA : Rd w none (some ⟨b, off, none⟩) n xs) (hB : Rd w none (some ⟨b2, off2, none⟩) n ys) (ha : All64 xs) (hb : All64 ys) (hcp : n ≤ cp) (hcm : cp ≤ 9223372036854775807) (hcq : n ≤ cq) (_hcn : cq ≤ 9223372036854775807) :
    Calls Try.prog 7 #[.slice (some ⟨b, off, none⟩) n cp, .slice (some ⟨b2, off2, none⟩) n cq, .int .i64 t] w fun e w' => e = .returned (.bool true) ∧ Below w.heap.size w w' := by
  have AW := Lib.hid (fun W => awake4_any W)
  have t1 : decide (n ≤ 200 ∧ n ≤ 200) = true := decide_eq_true ⟨hn, hn⟩
  have T1 := Lib.hid t1
  clear t1
  have hq0 : t % n < n := Nat.mod_lt _ hn0
  obtain ⟨q, hq⟩ : ∃ q, q = t % n := ⟨_, rfl⟩
  rw [← hq] at hq0
  have hr1 : (t : Int) % (n : Int) = (q : Int) := by rw [hq]; exact (Int.natCast_emod t n).symm
  have hr2 : (t : Int).tmod (n : Int) = (q : Int) := by rw [Int.tmod_eq_emod_of_nonneg (by omega)]; exact hr1
  have hnz : ((n : Int) == 0) = false := beq_eq_false_iff_ne.mpr (by omega)
  have htz : decide ((t : Int) < 0) = false := decide_eq_false (by omega)
  have iq : IntKind.i64.wrap (q : Int) = (q : Int) := IntWalk.i64_in _ (by omega)
  have g1 : q ≤ n := by omega
  have g2 : q ≤ cp := by omega
  have g3 : ¬ cp = q := by omega
  have g4 : q ≤ cq := by omega
  have g5 : ¬ cq = q := by omega
  have HA := Lib.hid hA
  have HB := Lib.hid hB
  clear hq hA hB
  clear hr1 ht
  go_enter Try.func7, Try.ntmps7
  go_wp2_with (first
    | (go_at_call 13; refine (AW.out _).mono ?_; rintro e w1 ⟨rfl, hb1⟩; obtain ⟨hc1, hf1, hz1⟩ := bcell hb1; (try simp at hz1); (try have : w.heap.size < w1.heap.size := by omega); (try have : w.heap.size + 1 < w1.heap.size := by omega); (try have : w.heap.size + 1 + 1 < w1.heap.size := by omega); (try have : w.heap.size + 1 + 1 + 1 < w1.heap.size := by omega); (try have : g < w1.heap.size := by omega); (try have : ga < w1.heap.size := by omega); (try have : gb < w1.heap.size := by omega); (try have : gc < w1.heap.size := by omega); have hB : Below w.heap.size w w1 := (by repeat (first | (with_reducible exact Below.refl _ _) | (with_reducible assumption) | (with_reducible refine Below.drew ?_) | (with_reducible refine Below.alloc ?_ ?_ _) | (with_reducible refine Below.setCell ?_ ?_ _) | (with_reducible refine Below.trans ?_ (Below.mono hb ?_)) | (with_reducible refine Below.trans ?_ (Below.mono hb1 ?_)) | (with_reducible refine Below.trans ?_ (Below.mono hb2 ?_)) | (with_reducible refine Below.trans ?_ (Below.mono hb3 ?_)) | (with_reducible refine Below.trans ?_ (Below.mono hb4 ?_)) | (with_reducible refine Below.trans ?_ (Below.mono hb5 ?_)) | (with_reducible refine Below.trans ?_ (Below.mono hb6 ?_)) | (with_reducible refine Below.trans ?_ (Below.mono hb7 ?_)) | (with_reducible refine Below.trans ?_ (Below.mono hb8 ?_)) | (with_reducible refine Below.trans ?_ (Below.mono hb9 ?_)) | (focus (first | omega | (simp; done) | (simp; omega))) | exact hB)))
    | (go_at_call 14; refine (few4_two (some ⟨b, off, none⟩) (some ⟨b2, off2, none⟩) n n cp cq _ _ (by simp) (by simp)).mono ?_; rw [T1.out]; rintro e w2 ⟨rfl, rfl⟩))
  refine at_world fun W0 hW0 => ?_
  have BW0 : Below w.heap.size w W0 := by subst hW0; exact (by repeat (first | (with_reducible exact Below.refl _ _) | (with_reducible assumption) | (with_reducible refine Below.drew ?_) | (with_reducible refine Below.alloc ?_ ?_ _) | (with_reducible refine Below.setCell ?_ ?_ _) | (with_reducible refine Below.trans ?_ (Below.mono hb ?_)) | (with_reducible refine Below.trans ?_ (Below.mono hb1 ?_)) | (with_reducible refine Below.trans ?_ (Below.mono hb2 ?_)) | (with_reducible refine Below.trans ?_ (Below.mono hb3 ?_)) | (with_reducible refine Below.trans ?_ (Below.mono hb4 ?_)) | (with_reducible refine Below.trans ?_ (Below.mono hb5 ?_)) | (with_reducible refine Below.trans ?_ (Below.mono hb6 ?_)) | (with_reducible refine Below.trans ?_ (Below.mono hb7 ?_)) | (with_reducible refine Below.trans ?_ (Below.mono hb8 ?_)) | (with_reducible refine Below.trans ?_ (Below.mono hb9 ?_)) | (focus (first | omega | (simp; done) | (simp; omega))) | exact hB))
  clear hW0 hb1 hc1 hf1 hB
  obtain ⟨iF, jh, jz0, jz1, jz2⟩ := info_parts infoFix
  have RT := Lib.hid (fun W h => rd_tail ((HA.out.call BW0).call (w' := W) h) q hn0 (by omega))
  have RH := Lib.hid (fun W h => rd_head ((HA.out.call BW0).call (w' := W) h) q hn0 (by omega))
  have hB0 := Below.refl W0.heap.size W0
  go_cut [8] (fun v w' => ∃ A c, v = .slice A n c ∧ Rd w' none A n (rotL xs q) ∧ Below W0.heap.size W0 w')
  case first =>
    go_region_law ((first | (refine step_app_all (by rfl) _ _ _ (by rfl) W0.heap.size 28 iF (.int .i64 0) Try.underlying22 jh jz0 jz1 jz2 rfl v1 (0 + (n - q)) _ (by rfl) hown1 none (some ⟨b, off, none⟩) q _ (xs.take q) (by rfl) (by exact RH.out _ hC1) (by omega) (by omega) ?_; intro v2 w6 hown2 hg2 _; have hB2 := gr_own (hg := hg2) (hO := hown1) (by omega); have hC2 := hC1.trans hB2) | (refine step_app_all (by rfl) _ _ _ (by rfl) W0.heap.size 28 iF (.int .i64 0) Try.underlying22 jh jz0 jz1 jz2 rfl (.slice (some ⟨W0.heap.size, 0, none⟩) 0 0) 0 [] (by rfl) (by exact own_e (w := W0) W0.heap.size rfl (Nat.le_refl _)) none (some ⟨b, off + q, none⟩) (n - q) _ (xs.drop q) (by rfl) (by exact RT.out _ (by repeat (first | (with_reducible exact Below.refl _ _) | (with_reducible assumption) | (with_reducible refine Below.drew ?_) | (with_reducible refine Below.alloc ?_ ?_ _) | (with_reducible refine Below.setCell ?_ ?_ _) | (with_reducible refine Below.trans ?_ (Below.mono hb ?_)) | (with_reducible refine Below.trans ?_ (Below.mono hb1 ?_)) | (with_reducible refine Below.trans ?_ (Below.mono hb2 ?_)) | (with_reducible refine Below.trans ?_ (Below.mono hb3 ?_)) | (with_reducible refine Below.trans ?_ (Below.mono hb4 ?_)) | (with_reducible refine Below.trans ?_ (Below.mono hb5 ?_)) | (with_reducible refine Below.trans ?_ (Below.mono hb6 ?_)) | (with_reducible refine Below.trans ?_ (Below.mono hb7 ?_)) | (with_reducible refine Below.trans ?_ (Below.mono hb8 ?_)) | (with_reducible refine Below.trans ?_ (Below.mono hb9 ?_)) | (focus (first | omega | (simp; done) | (simp; omega))) | exact hB))) (by omega) (by first | omega | (simp; done) | (simp; omega)) ?_; intro v1 w5 hown1 hg1 _; have hB1 := gr_own (E := 28) (n := 0) (ys := []) (hg := hg1) (hO := by exact own_e (w := W0) W0.heap.size rfl (Nat.le_refl _)) (by first | omega | (simp; done) | (simp; omega)); have hC1 : Below W0.heap.size W0 w5 := Below.trans (by repeat (first | (with_reducible exact Below.refl _ _) | (with_reducible assumption) | (with_reducible refine Below.drew ?_) | (with_reducible refine Below.alloc ?_ ?_ _) | (with_reducible refine Below.setCell ?_ ?_ _) | (with_reducible refine Below.trans ?_ (Below.mono hb ?_)) | (with_reducible refine Below.trans ?_ (Below.mono hb1 ?_)) | (with_reducible refine Below.trans ?_ (Below.mono hb2 ?_)) | (with_reducible refine Below.trans ?_ (Below.mono hb3 ?_)) | (with_reducible refine Below.trans ?_ (Below.mono hb4 ?_)) | (with_reducible refine Below.trans ?_ (Below.mono hb5 ?_)) | (with_reducible refine Below.trans ?_ (Below.mono hb6 ?_)) | (with_reducible refine Below.trans ?_ (Below.mono hb7 ?_)) | (with_reducible refine Below.trans ?_ (Below.mono hb8 ?_)) | (with_reducible refine Below.trans ?_ (Below.mono hb9 ?_)) | (focus (first | omega | (simp; done) | (simp; omega))) | exact hB)) hB1; have hz1 := hC1.size)))
    all_goals
      go_wp2_with fail
      go_meet
      case rel =>
        obtain ⟨A, c, rfl, hr⟩ := own_rot hown2 HA.out.1 rfl g1
        exact ⟨A, c, rfl, hr, hC2⟩
  case rest =>
  obtain ⟨A1, c1, rfl, rd1, bw1⟩ := hcut
  have BW2 := BW0.trans (bw1.mono BW0.size)
  obtain ⟨W2, hW2⟩ : ∃ W2 : World, W2 = wc := ⟨_, rfl⟩
  obtain rfl : W2 = wc := hW2
  have RT2 := Lib.hid (fun W h => rd_tail ((HB.out.call BW2).call (w' := W) h) q hn0 (by omega))
  have RH2 := Lib.hid (fun W h => rd_head ((HB.out.call BW2).call (w' := W) h) q hn0 (by omega))
  have RD1 := Lib.hid rd1
  clear rd1 bw1 hB0
  go_wp2_with fail
  go_cut [9] (fun v w' => ∃ A c, v = .slice A n c ∧ Rd w' none A n (rotL ys q) ∧ Below W2.heap.size W2 w')
  case first =>
    go_region_law ((first | (refine step_app_all (by rfl) _ _ _ (by rfl) W2.heap.size 28 iF (.int .i64 0) Try.underlying22 jh jz0 jz1 jz2 rfl v1 (0 + (n - q)) _ (by rfl) hown1 none (some ⟨b2, off2, none⟩) q _ (ys.take q) (by rfl) (by exact RH2.out _ hC1) (by omega) (by omega) ?_; intro v2 w6 hown2 hg2 _; have hB2 := gr_own (hg := hg2) (hO := hown1) (by omega); have hC2 := hC1.trans hB2) | (refine step_app_all (by rfl) _ _ _ (by rfl) W2.heap.size 28 iF (.int .i64 0) Try.underlying22 jh jz0 jz1 jz2 rfl (.slice (some ⟨W2.heap.size, 0, none⟩) 0 0) 0 [] (by rfl) (by exact own_e (w := W2) W2.heap.size rfl (Nat.le_refl _)) none (some ⟨b2, off2 + q, none⟩) (n - q) _ (ys.drop q) (by rfl) (by exact RT2.out _ (by repeat (first | (with_reducible exact Below.refl _ _) | (with_reducible assumption) | (with_reducible refine Below.drew ?_) | (with_reducible refine Below.alloc ?_ ?_ _) | (with_reducible refine Below.setCell ?_ ?_ _) | (with_reducible refine Below.trans ?_ (Below.mono hb ?_)) | (with_reducible refine Below.trans ?_ (Below.mono hb1 ?_)) | (with_reducible refine Below.trans ?_ (Below.mono hb2 ?_)) | (with_reducible refine Below.trans ?_ (Below.mono hb3 ?_)) | (with_reducible refine Below.trans ?_ (Below.mono hb4 ?_)) | (with_reducible refine Below.trans ?_ (Below.mono hb5 ?_)) | (with_reducible refine Below.trans ?_ (Below.mono hb6 ?_)) | (with_reducible refine Below.trans ?_ (Below.mono hb7 ?_)) | (with_reducible refine Below.trans ?_ (Below.mono hb8 ?_)) | (with_reducible refine Below.trans ?_ (Below.mono hb9 ?_)) | (focus (first | omega | (simp; done) | (simp; omega))) | exact hB))) (by omega) (by first | omega | (simp; done) | (simp; omega)) ?_; intro v1 w5 hown1 hg1 _; have hB1 := gr_own (E := 28) (n := 0) (ys := []) (hg := hg1) (hO := by exact own_e (w := W2) W2.heap.size rfl (Nat.le_refl _)) (by first | omega | (simp; done) | (simp; omega)); have hC1 : Below W2.heap.size W2 w5 := Below.trans (by repeat (first | (with_reducible exact Below.refl _ _) | (with_reducible assumption) | (with_reducible refine Below.drew ?_) | (with_reducible refine Below.alloc ?_ ?_ _) | (with_reducible refine Below.setCell ?_ ?_ _) | (with_reducible refine Below.trans ?_ (Below.mono hb ?_)) | (with_reducible refine Below.trans ?_ (Below.mono hb1 ?_)) | (with_reducible refine Below.trans ?_ (Below.mono hb2 ?_)) | (with_reducible refine Below.trans ?_ (Below.mono hb3 ?_)) | (with_reducible refine Below.trans ?_ (Below.mono hb4 ?_)) | (with_reducible refine Below.trans ?_ (Below.mono hb5 ?_)) | (with_reducible refine Below.trans ?_ (Below.mono hb6 ?_)) | (with_reducible refine Below.trans ?_ (Below.mono hb7 ?_)) | (with_reducible refine Below.trans ?_ (Below.mono hb8 ?_)) | (with_reducible refine Below.trans ?_ (Below.mono hb9 ?_)) | (focus (first | omega | (simp; done) | (simp; omega))) | exact hB)) hB1; have hz1 := hC1.size)))
    all_goals
      go_wp2_with fail
      go_meet
      case rel =>
        obtain ⟨A, c, rfl, hr⟩ := own_rot hown2 HB.out.1 rfl g1
        exact ⟨A, c, rfl, hr, hC2⟩
  case rest =>
  obtain ⟨A2, c2, rfl, rd4, bw2⟩ := hcut
  have BW3 := BW2.trans (bw2.mono BW2.size)
  have rd3 := RD1.out.call bw2
  clear bw2 BW2 jh jz0 jz1 jz2 RT RH RT2 RH2 RD1
  have ax := rot_all ha q (by rw [HA.out.1]; exact g1)
  have ay := rot_all hb q (by rw [HB.out.1]; exact g1)
  have E1 : dotI (rotL ys q) (rotL xs q) 0 1 n = dotI xs ys 0 1 n := dot_rot HA.out.1 HB.out.1 g1
  have E2 : totI (rotL xs q) n = totI xs n := tot_rot HA.out.1 g1
  have E1 := Lib.hid E1
  have E2 := Lib.hid E2
  obtain ⟨d, hd⟩ : ∃ d, d = clampI (rnd (dotI xs ys 0 1 n) 4294967296) := ⟨_, rfl⟩
  obtain ⟨s, hs⟩ : ∃ s, s = clampI (totI xs n) := ⟨_, rfl⟩
  obtain ⟨m, hm⟩ : ∃ m, m = clampI (quoI (totI xs n) n) := ⟨_, rfl⟩
  have hd := Lib.hid hd
  have hs := Lib.hid hs
  have hm := Lib.hid hm
  have g6 : n ≤ 65536 := by omega
  go_wp2_with fail
  refine (vdot_any (.pointer none) none 0 _ _ n _ _ xs ys _ g6 (HA.out.call BW3) (HB.out.call BW3) ha hb (Unt.nil _ _) (by omega) (by omega)).mono ?_
  rw [← hd.out]
  rintro e y1 ⟨rfl, hg, hU⟩
  replace hg := gr_none hg
  have BY1 := BW3.trans (hg.mono BW3.size)
  have rd1X := rd3.call hg
  have rd1Y := rd4.call hg
  clear hg hU
  go_wp2_with fail
  refine (vdot_any (.pointer none) none 0 _ _ n _ _ (rotL ys q) (rotL xs q) _ g6 rd1Y rd1X ay ax (Unt.nil _ _) (by omega) (by omega)).mono ?_
  rw [E1.out, ← hd.out]
  rintro e y2 ⟨rfl, hg, hU⟩
  replace hg := gr_none hg
  have BY2 := BY1.trans (hg.mono BY1.size)
  have rd2X := rd1X.call hg
  have rd2Y := rd1Y.call hg
  clear hg hU
  go_wp2_with fail
  refine (vsum_any (.pointer none) none 0 _ n _ xs _ g6 (HA.out.call BY2) ha (Unt.nil _ _) (by omega) (by omega)).mono ?_
  rw [← hs.out]
  rintro e y3 ⟨rfl, hg, hU⟩
  replace hg := gr_none hg
  have BY3 := BY2.trans (hg.mono BY2.size)
  have rd3X := rd2X.call hg
  have rd3Y := rd2Y.call hg
  clear hg hU
  go_wp2_with fail
  refine (vsum_any (.pointer none) none 0 _ n _ (rotL xs q) _ g6 rd3X ax (Unt.nil _ _) (by omega) (by omega)).mono ?_
  rw [E2.out, ← hs.out]
  rintro e y4 ⟨rfl, hg, hU⟩
  replace hg := gr_none hg
  have BY4 := BY3.trans (hg.mono BY3.size)
  have rd4X := rd3X.call hg
  have rd4Y := rd3Y.call hg
  clear hg hU
  go_wp2_with fail
  refine (vmean_any (.pointer none) none 0 _ n _ xs _ g6 hn0 (HA.out.call BY4) ha (Unt.nil _ _) (by omega) (by omega)).mono ?_
  rw [← hm.out]
  rintro e y5 ⟨rfl, hg, hU⟩
  replace hg := gr_none hg
  have BY5 := BY4.trans (hg.mono BY4.size)
  have rd5X := rd4X.call hg
  have rd5Y := rd4Y.call hg
  clear hg hU
  go_wp2_with fail
  refine (vmean_any (.pointer none) none 0 _ n _ (rotL xs q) _ g6 hn0 rd5X ax (Unt.nil _ _) (by omega) (by omega)).mono ?_
  rw [E2.out, ← hm.out]
  rintro e y6 ⟨rfl, hg, hU⟩
  replace hg := gr_none hg
  have BY6 := BY5.trans (hg.mono BY5.size)
  have rd6X := rd5X.call hg
  have rd6Y := rd5Y.call hg
  clear hg hU
  clear rd6X rd6Y
  go_wp2_with fail
  go_ret
  exact ⟨rfl, BY6⟩
set_option maxHeartbeats 2000000 in
set_option maxRecDepth 100000 in
theorem vturned_out (A B : Option Addr) (n cp m cq : Nat) (t : Int) (w : World) (h : ¬ ((n ≤ 200 ∧ m ≤ 200) ∧ 0 < n ∧ n = m ∧ 0 ≤ t)) :
    Calls Try.prog 7 #[.slice A n cp, .slice B m cq, .int .i64 t] w fun e w' => e = .returned (.bool true) ∧ Below w.heap.size w w' := by
  have AW := Lib.hid (fun W => awake4_any W)
  by_cases h1 : n ≤ 200 ∧ m ≤ 200
  · have T1 := Lib.hid (decide_eq_true h1)
    by_cases h2 : n = 0
    · have e1 : ((n : Int) == 0) = true := beq_iff_eq.mpr (by omega)
      clear h h1 h2
      go_enter Try.func7, Try.ntmps7
      go_wp2_with (first
        | (go_at_call 13; refine (AW.out _).mono ?_; rintro e w1 ⟨rfl, hb1⟩; obtain ⟨hc1, hf1, hz1⟩ := bcell hb1; (try simp at hz1); (try have : w.heap.size < w1.heap.size := by omega); (try have : w.heap.size + 1 < w1.heap.size := by omega); (try have : w.heap.size + 1 + 1 < w1.heap.size := by omega); (try have : w.heap.size + 1 + 1 + 1 < w1.heap.size := by omega); (try have : g < w1.heap.size := by omega); (try have : ga < w1.heap.size := by omega); (try have : gb < w1.heap.size := by omega); (try have : gc < w1.heap.size := by omega); have hB : Below w.heap.size w w1 := (by repeat (first | (with_reducible exact Below.refl _ _) | (with_reducible assumption) | (with_reducible refine Below.drew ?_) | (with_reducible refine Below.alloc ?_ ?_ _) | (with_reducible refine Below.setCell ?_ ?_ _) | (with_reducible refine Below.trans ?_ (Below.mono hb ?_)) | (with_reducible refine Below.trans ?_ (Below.mono hb1 ?_)) | (with_reducible refine Below.trans ?_ (Below.mono hb2 ?_)) | (with_reducible refine Below.trans ?_ (Below.mono hb3 ?_)) | (with_reducible refine Below.trans ?_ (Below.mono hb4 ?_)) | (with_reducible refine Below.trans ?_ (Below.mono hb5 ?_)) | (with_reducible refine Below.trans ?_ (Below.mono hb6 ?_)) | (with_reducible refine Below.trans ?_ (Below.mono hb7 ?_)) | (with_reducible refine Below.trans ?_ (Below.mono hb8 ?_)) | (with_reducible refine Below.trans ?_ (Below.mono hb9 ?_)) | (focus (first | omega | (simp; done) | (simp; omega))) | exact hB)))
        | (go_at_call 14; refine (few4_two A B n m cp cq _ _ (by simp) (by simp)).mono ?_; rw [T1.out]; rintro e w2 ⟨rfl, rfl⟩))
      go_ret
      exact ⟨rfl, (by repeat (first | (with_reducible exact Below.refl _ _) | (with_reducible assumption) | (with_reducible refine Below.drew ?_) | (with_reducible refine Below.alloc ?_ ?_ _) | (with_reducible refine Below.setCell ?_ ?_ _) | (with_reducible refine Below.trans ?_ (Below.mono hb ?_)) | (with_reducible refine Below.trans ?_ (Below.mono hb1 ?_)) | (with_reducible refine Below.trans ?_ (Below.mono hb2 ?_)) | (with_reducible refine Below.trans ?_ (Below.mono hb3 ?_)) | (with_reducible refine Below.trans ?_ (Below.mono hb4 ?_)) | (with_reducible refine Below.trans ?_ (Below.mono hb5 ?_)) | (with_reducible refine Below.trans ?_ (Below.mono hb6 ?_)) | (with_reducible refine Below.trans ?_ (Below.mono hb7 ?_)) | (with_reducible refine Below.trans ?_ (Below.mono hb8 ?_)) | (with_reducible refine Below.trans ?_ (Below.mono hb9 ?_)) | (focus (first | omega | (simp; done) | (simp; omega))) | exact hB))⟩
    · have e1 : ((n : Int) == 0) = false := beq_eq_false_iff_ne.mpr (by omega)
      by_cases h3 : n = m
      · have e2 : ((n : Int) != (m : Int)) = false := by simp [h3]
        have e3 : decide (t < 0) = true := decide_eq_true (by omega)
        clear h h1 h2 h3
        go_enter Try.func7, Try.ntmps7
        go_wp2_with (first
          | (go_at_call 13; refine (AW.out _).mono ?_; rintro e w1 ⟨rfl, hb1⟩; obtain ⟨hc1, hf1, hz1⟩ := bcell hb1; (try simp at hz1); (try have : w.heap.size < w1.heap.size := by omega); (try have : w.heap.size + 1 < w1.heap.size := by omega); (try have : w.heap.size + 1 + 1 < w1.heap.size := by omega); (try have : w.heap.size + 1 + 1 + 1 < w1.heap.size := by omega); (try have : g < w1.heap.size := by omega); (try have : ga < w1.heap.size := by omega); (try have : gb < w1.heap.size := by omega); (try have : gc < w1.heap.size := by omega); have hB : Below w.heap.size w w1 := (by repeat (first | (with_reducible exact Below.refl _ _) | (with_reducible assumption) | (with_reducible refine Below.drew ?_) | (with_reducible refine Below.alloc ?_ ?_ _) | (with_reducible refine Below.setCell ?_ ?_ _) | (with_reducible refine Below.trans ?_ (Below.mono hb ?_)) | (with_reducible refine Below.trans ?_ (Below.mono hb1 ?_)) | (with_reducible refine Below.trans ?_ (Below.mono hb2 ?_)) | (with_reducible refine Below.trans ?_ (Below.mono hb3 ?_)) | (with_reducible refine Below.trans ?_ (Below.mono hb4 ?_)) | (with_reducible refine Below.trans ?_ (Below.mono hb5 ?_)) | (with_reducible refine Below.trans ?_ (Below.mono hb6 ?_)) | (with_reducible refine Below.trans ?_ (Below.mono hb7 ?_)) | (with_reducible refine Below.trans ?_ (Below.mono hb8 ?_)) | (with_reducible refine Below.trans ?_ (Below.mono hb9 ?_)) | (focus (first | omega | (simp; done) | (simp; omega))) | exact hB)))
          | (go_at_call 14; refine (few4_two A B n m cp cq _ _ (by simp) (by simp)).mono ?_; rw [T1.out]; rintro e w2 ⟨rfl, rfl⟩))
        go_ret
        exact ⟨rfl, (by repeat (first | (with_reducible exact Below.refl _ _) | (with_reducible assumption) | (with_reducible refine Below.drew ?_) | (with_reducible refine Below.alloc ?_ ?_ _) | (with_reducible refine Below.setCell ?_ ?_ _) | (with_reducible refine Below.trans ?_ (Below.mono hb ?_)) | (with_reducible refine Below.trans ?_ (Below.mono hb1 ?_)) | (with_reducible refine Below.trans ?_ (Below.mono hb2 ?_)) | (with_reducible refine Below.trans ?_ (Below.mono hb3 ?_)) | (with_reducible refine Below.trans ?_ (Below.mono hb4 ?_)) | (with_reducible refine Below.trans ?_ (Below.mono hb5 ?_)) | (with_reducible refine Below.trans ?_ (Below.mono hb6 ?_)) | (with_reducible refine Below.trans ?_ (Below.mono hb7 ?_)) | (with_reducible refine Below.trans ?_ (Below.mono hb8 ?_)) | (with_reducible refine Below.trans ?_ (Below.mono hb9 ?_)) | (focus (first | omega | (simp; done) | (simp; omega))) | exact hB))⟩
      · have e2 : ((n : Int) != (m : Int)) = true := by simp only [bne_iff_ne]; omega
        clear h h1 h2 h3
        go_enter Try.func7, Try.ntmps7
        go_wp2_with (first
          | (go_at_call 13; refine (AW.out _).mono ?_; rintro e w1 ⟨rfl, hb1⟩; obtain ⟨hc1, hf1, hz1⟩ := bcell hb1; (try simp at hz1); (try have : w.heap.size < w1.heap.size := by omega); (try have : w.heap.size + 1 < w1.heap.size := by omega); (try have : w.heap.size + 1 + 1 < w1.heap.size := by omega); (try have : w.heap.size + 1 + 1 + 1 < w1.heap.size := by omega); (try have : g < w1.heap.size := by omega); (try have : ga < w1.heap.size := by omega); (try have : gb < w1.heap.size := by omega); (try have : gc < w1.heap.size := by omega); have hB : Below w.heap.size w w1 := (by repeat (first | (with_reducible exact Below.refl _ _) | (with_reducible assumption) | (with_reducible refine Below.drew ?_) | (with_reducible refine Below.alloc ?_ ?_ _) | (with_reducible refine Below.setCell ?_ ?_ _) | (with_reducible refine Below.trans ?_ (Below.mono hb ?_)) | (with_reducible refine Below.trans ?_ (Below.mono hb1 ?_)) | (with_reducible refine Below.trans ?_ (Below.mono hb2 ?_)) | (with_reducible refine Below.trans ?_ (Below.mono hb3 ?_)) | (with_reducible refine Below.trans ?_ (Below.mono hb4 ?_)) | (with_reducible refine Below.trans ?_ (Below.mono hb5 ?_)) | (with_reducible refine Below.trans ?_ (Below.mono hb6 ?_)) | (with_reducible refine Below.trans ?_ (Below.mono hb7 ?_)) | (with_reducible refine Below.trans ?_ (Below.mono hb8 ?_)) | (with_reducible refine Below.trans ?_ (Below.mono hb9 ?_)) | (focus (first | omega | (simp; done) | (simp; omega))) | exact hB)))
          | (go_at_call 14; refine (few4_two A B n m cp cq _ _ (by simp) (by simp)).mono ?_; rw [T1.out]; rintro e w2 ⟨rfl, rfl⟩))
        go_ret
        exact ⟨rfl, (by repeat (first | (with_reducible exact Below.refl _ _) | (with_reducible assumption) | (with_reducible refine Below.drew ?_) | (with_reducible refine Below.alloc ?_ ?_ _) | (with_reducible refine Below.setCell ?_ ?_ _) | (with_reducible refine Below.trans ?_ (Below.mono hb ?_)) | (with_reducible refine Below.trans ?_ (Below.mono hb1 ?_)) | (with_reducible refine Below.trans ?_ (Below.mono hb2 ?_)) | (with_reducible refine Below.trans ?_ (Below.mono hb3 ?_)) | (with_reducible refine Below.trans ?_ (Below.mono hb4 ?_)) | (with_reducible refine Below.trans ?_ (Below.mono hb5 ?_)) | (with_reducible refine Below.trans ?_ (Below.mono hb6 ?_)) | (with_reducible refine Below.trans ?_ (Below.mono hb7 ?_)) | (with_reducible refine Below.trans ?_ (Below.mono hb8 ?_)) | (with_reducible refine Below.trans ?_ (Below.mono hb9 ?_)) | (focus (first | omega | (simp; done) | (simp; omega))) | exact hB))⟩
  · have T1 := Lib.hid (decide_eq_false h1)
    clear h h1
    go_enter Try.func7, Try.ntmps7
    go_wp2_with (first
      | (go_at_call 13; refine (AW.out _).mono ?_; rintro e w1 ⟨rfl, hb1⟩; obtain ⟨hc1, hf1, hz1⟩ := bcell hb1; (try simp at hz1); (try have : w.heap.size < w1.heap.size := by omega); (try have : w.heap.size + 1 < w1.heap.size := by omega); (try have : w.heap.size + 1 + 1 < w1.heap.size := by omega); (try have : w.heap.size + 1 + 1 + 1 < w1.heap.size := by omega); (try have : g < w1.heap.size := by omega); (try have : ga < w1.heap.size := by omega); (try have : gb < w1.heap.size := by omega); (try have : gc < w1.heap.size := by omega); have hB : Below w.heap.size w w1 := (by repeat (first | (with_reducible exact Below.refl _ _) | (with_reducible assumption) | (with_reducible refine Below.drew ?_) | (with_reducible refine Below.alloc ?_ ?_ _) | (with_reducible refine Below.setCell ?_ ?_ _) | (with_reducible refine Below.trans ?_ (Below.mono hb ?_)) | (with_reducible refine Below.trans ?_ (Below.mono hb1 ?_)) | (with_reducible refine Below.trans ?_ (Below.mono hb2 ?_)) | (with_reducible refine Below.trans ?_ (Below.mono hb3 ?_)) | (with_reducible refine Below.trans ?_ (Below.mono hb4 ?_)) | (with_reducible refine Below.trans ?_ (Below.mono hb5 ?_)) | (with_reducible refine Below.trans ?_ (Below.mono hb6 ?_)) | (with_reducible refine Below.trans ?_ (Below.mono hb7 ?_)) | (with_reducible refine Below.trans ?_ (Below.mono hb8 ?_)) | (with_reducible refine Below.trans ?_ (Below.mono hb9 ?_)) | (focus (first | omega | (simp; done) | (simp; omega))) | exact hB)))
      | (go_at_call 14; refine (few4_two A B n m cp cq _ _ (by simp) (by simp)).mono ?_; rw [T1.out]; rintro e w2 ⟨rfl, rfl⟩))
    go_ret
    exact ⟨rfl, (by repeat (first | (with_reducible exact Below.refl _ _) | (with_reducible assumption) | (with_reducible refine Below.drew ?_) | (with_reducible refine Below.alloc ?_ ?_ _) | (with_reducible refine Below.setCell ?_ ?_ _) | (with_reducible refine Below.trans ?_ (Below.mono hb ?_)) | (with_reducible refine Below.trans ?_ (Below.mono hb1 ?_)) | (with_reducible refine Below.trans ?_ (Below.mono hb2 ?_)) | (with_reducible refine Below.trans ?_ (Below.mono hb3 ?_)) | (with_reducible refine Below.trans ?_ (Below.mono hb4 ?_)) | (with_reducible refine Below.trans ?_ (Below.mono hb5 ?_)) | (with_reducible refine Below.trans ?_ (Below.mono hb6 ?_)) | (with_reducible refine Below.trans ?_ (Below.mono hb7 ?_)) | (with_reducible refine Below.trans ?_ (Below.mono hb8 ?_)) | (with_reducible refine Below.trans ?_ (Below.mono hb9 ?_)) | (focus (first | omega | (simp; done) | (simp; omega))) | exact hB))⟩
theorem vecTurned_walk (A : Option Addr) (n cp : Nat) (xs : List Int) (B : Option Addr) (m cq : Nat) (ys : List Int) (t : Int) (w : World) (i0 : (n ≤ cp ∧ cp ≤ 9223372036854775807) ∧ Row64 w A n xs) (i1 : (m ≤ cq ∧ cq ≤ 9223372036854775807) ∧ Row64 w B m ys) (i2 : In64 t) :
    Calls Try.prog 7 #[.slice A n cp, .slice B m cq, .int .i64 t] w fun e w' => e = .returned (.bool true) ∧ Below w.heap.size w w' := by
  by_cases h : (n ≤ 200 ∧ m ≤ 200) ∧ 0 < n ∧ n = m ∧ 0 ≤ t
  · obtain ⟨⟨h1, _⟩, hn, rfl, ht⟩ := h
    obtain ⟨⟨k1, k2⟩, hA, ha⟩ := i0
    obtain ⟨⟨k3, k4⟩, hB, hb⟩ := i1
    obtain ⟨t', rfl⟩ := Int.eq_ofNat_of_zero_le ht
    obtain ⟨b, off, rfl, _⟩ := hA.2 hn
    obtain ⟨b2, off2, rfl, _⟩ := hB.2 hn
    exact vturned_main b off b2 off2 n cp cq t' xs ys w h1 hn (by have := i2.2; omega) hA hB ha hb k1 k2 k3 k4
  · exact vturned_out A B n cp m cq t w h
end Go.Proofs.Ytikjomekhnkgcaa
