import Derived.Test.YtcdnkecgnfdfnaaWODeltas
import Derived.Test.YtcdnkecgnfdfnaaWOStill
/- The law OuterOne, walked. -/
namespace Go.Proofs.Ytcdnkecgnfdfnaa
open Go.RowKit
attribute [local go_sem ↓] Go.wp_at_zero Go.wp_at_succ

set_option maxRecDepth 100000 in
theorem oone_early (A C : Option Addr) (n cp m cr : Nat) (w : World) (h : 200 < n ∨ n ≠ m) :
    Calls Try.prog 7 #[.slice A n cp, .slice C m cr] w fun e w' => e = .returned (.bool true) ∧ Below w.heap.size w w' := by
  have AW := Lib.hid (fun W => awake10_any W)
  by_cases h1 : 200 < n
  · clear h
    go_enter Try.func7, Try.ntmps7
    go_wp2_with (go_at_call 8; refine (AW.out _).mono ?_; rintro e w1 ⟨rfl, hb1⟩; obtain ⟨hc1, hf1, hz1⟩ := bcell hb1; (try simp at hz1); (try have : w.heap.size < w1.heap.size := by omega); (try have : w.heap.size + 1 < w1.heap.size := by omega); (try have : w.heap.size + 1 + 1 < w1.heap.size := by omega); (try have : w.heap.size + 1 + 1 + 1 < w1.heap.size := by omega); (try have : g < w1.heap.size := by omega); (try have : ga < w1.heap.size := by omega); (try have : gb < w1.heap.size := by omega); (try have : gc < w1.heap.size := by omega); have hB : Below w.heap.size w w1 := (by repeat (first | (with_reducible exact Below.refl _ _) | (with_reducible assumption) | (with_reducible refine Below.drew ?_) | (with_reducible refine Below.alloc ?_ ?_ _) | (with_reducible refine Below.setCell ?_ ?_ _) | (with_reducible refine Below.trans ?_ (Below.mono hb ?_)) | (with_reducible refine Below.trans ?_ (Below.mono hb1 ?_)) | (with_reducible refine Below.trans ?_ (Below.mono hb2 ?_)) | (with_reducible refine Below.trans ?_ (Below.mono hb3 ?_)) | (with_reducible refine Below.trans ?_ (Below.mono hb4 ?_)) | (with_reducible refine Below.trans ?_ (Below.mono hb5 ?_)) | (with_reducible refine Below.trans ?_ (Below.mono hb6 ?_)) | (with_reducible refine Below.trans ?_ (Below.mono hb7 ?_)) | (with_reducible refine Below.trans ?_ (Below.mono hb8 ?_)) | (with_reducible refine Below.trans ?_ (Below.mono hb9 ?_)) | (focus (first | omega | (simp; done) | (simp; omega))) | exact hB)))
    go_ret
    exact ⟨rfl, (by repeat (first | (with_reducible exact Below.refl _ _) | (with_reducible assumption) | (with_reducible refine Below.drew ?_) | (with_reducible refine Below.alloc ?_ ?_ _) | (with_reducible refine Below.setCell ?_ ?_ _) | (with_reducible refine Below.trans ?_ (Below.mono hb ?_)) | (with_reducible refine Below.trans ?_ (Below.mono hb1 ?_)) | (with_reducible refine Below.trans ?_ (Below.mono hb2 ?_)) | (with_reducible refine Below.trans ?_ (Below.mono hb3 ?_)) | (with_reducible refine Below.trans ?_ (Below.mono hb4 ?_)) | (with_reducible refine Below.trans ?_ (Below.mono hb5 ?_)) | (with_reducible refine Below.trans ?_ (Below.mono hb6 ?_)) | (with_reducible refine Below.trans ?_ (Below.mono hb7 ?_)) | (with_reducible refine Below.trans ?_ (Below.mono hb8 ?_)) | (with_reducible refine Below.trans ?_ (Below.mono hb9 ?_)) | (focus (first | omega | (simp; done) | (simp; omega))) | exact hB))⟩
  · have h2 : ¬ (n : Int) = m := by omega
    have t : ((n : Int) != m) = true := by simpa using h2
    clear h
    go_enter Try.func7, Try.ntmps7
    go_wp2_with (go_at_call 8; refine (AW.out _).mono ?_; rintro e w1 ⟨rfl, hb1⟩; obtain ⟨hc1, hf1, hz1⟩ := bcell hb1; (try simp at hz1); (try have : w.heap.size < w1.heap.size := by omega); (try have : w.heap.size + 1 < w1.heap.size := by omega); (try have : w.heap.size + 1 + 1 < w1.heap.size := by omega); (try have : w.heap.size + 1 + 1 + 1 < w1.heap.size := by omega); (try have : g < w1.heap.size := by omega); (try have : ga < w1.heap.size := by omega); (try have : gb < w1.heap.size := by omega); (try have : gc < w1.heap.size := by omega); have hB : Below w.heap.size w w1 := (by repeat (first | (with_reducible exact Below.refl _ _) | (with_reducible assumption) | (with_reducible refine Below.drew ?_) | (with_reducible refine Below.alloc ?_ ?_ _) | (with_reducible refine Below.setCell ?_ ?_ _) | (with_reducible refine Below.trans ?_ (Below.mono hb ?_)) | (with_reducible refine Below.trans ?_ (Below.mono hb1 ?_)) | (with_reducible refine Below.trans ?_ (Below.mono hb2 ?_)) | (with_reducible refine Below.trans ?_ (Below.mono hb3 ?_)) | (with_reducible refine Below.trans ?_ (Below.mono hb4 ?_)) | (with_reducible refine Below.trans ?_ (Below.mono hb5 ?_)) | (with_reducible refine Below.trans ?_ (Below.mono hb6 ?_)) | (with_reducible refine Below.trans ?_ (Below.mono hb7 ?_)) | (with_reducible refine Below.trans ?_ (Below.mono hb8 ?_)) | (with_reducible refine Below.trans ?_ (Below.mono hb9 ?_)) | (focus (first | omega | (simp; done) | (simp; omega))) | exact hB)))
    go_ret
    exact ⟨rfl, (by repeat (first | (with_reducible exact Below.refl _ _) | (with_reducible assumption) | (with_reducible refine Below.drew ?_) | (with_reducible refine Below.alloc ?_ ?_ _) | (with_reducible refine Below.setCell ?_ ?_ _) | (with_reducible refine Below.trans ?_ (Below.mono hb ?_)) | (with_reducible refine Below.trans ?_ (Below.mono hb1 ?_)) | (with_reducible refine Below.trans ?_ (Below.mono hb2 ?_)) | (with_reducible refine Below.trans ?_ (Below.mono hb3 ?_)) | (with_reducible refine Below.trans ?_ (Below.mono hb4 ?_)) | (with_reducible refine Below.trans ?_ (Below.mono hb5 ?_)) | (with_reducible refine Below.trans ?_ (Below.mono hb6 ?_)) | (with_reducible refine Below.trans ?_ (Below.mono hb7 ?_)) | (with_reducible refine Below.trans ?_ (Below.mono hb8 ?_)) | (with_reducible refine Below.trans ?_ (Below.mono hb9 ?_)) | (focus (first | omega | (simp; done) | (simp; omega))) | exact hB))⟩
/-! ### what the parameters come to, where nothing is held -/
theorem cnt_zero {v : Nat → Int} {n : Nat} (h : cntI v n = 0) : ∀ j, j < n → overI (v j) = false := by
  induction n with
  | zero => intro j hj; omega
  | succ n ih =>
    simp only [cntI] at h
    have b := cntI_bound v n
    have o := ov_01 (overI (v n))
    intro j hj
    rcases Nat.lt_or_ge j n with h1 | h1
    · exact ih (by omega) j h1
    · obtain rfl : j = n := by omega
      cases hv : overI (v j) with
      | false => rfl
      | true => rw [hv] at h; simp [ov] at h; omega
theorem clamp_of_over {x : Int} (h : overI x = false) : clampI x = x := by
  unfold overI at h; simp at h
  unfold clampI; rw [if_neg (by omega), if_neg (by omega)]
/-- One worker's way. -/
def oneP (xs ys : List Int) (n : Nat) : List Int := opV 4294967296 0 xs (List.replicate n 0) (rowI (subV xs ys) n) n
def oneC (xs ys : List Int) (n : Nat) : Int := cntI (subV xs ys) n + ocN 4294967296 0 xs (List.replicate n 0) (rowI (subV xs ys) n) n
theorem rnd_whole (x y : Int) (hy : 0 < y) : rnd (x * y) y = x := rnd_mul x y hy
theorem axI_m0 (x y : Int) : axI 0 x y = y := axI_rate0 x y
theorem axI_neg1 (x y : Int) : axI (-4294967296) x y = y - x := by
  unfold axI
  rw [show -4294967296 * x + y * 4294967296 = (y - x) * 4294967296 by rw [Int.sub_mul]; omega]
  exact rnd_mul _ _ (by omega)
theorem one_end (xs ys : List Int) (n : Nat) (hy : All64 ys) (hc : oneC xs ys n = 0) : ∀ j, j < n → (oneP xs ys n).getD j 0 = ys.getD j 0 := by
  have b1 := cntI_bound (subV xs ys) n
  have b2 := cntI_bound (axV 0 (List.replicate n 0) (rowI (subV xs ys) n)) n
  have b3 := cntI_bound (axV 0 (obV 0 (List.replicate n 0) (rowI (subV xs ys) n) n) (rowI (subV xs ys) n)) n
  have b4 := cntI_bound (axV (-4294967296) (odV 0 (List.replicate n 0) (rowI (subV xs ys) n) n) xs) n
  have h1 : cntI (subV xs ys) n = 0 := by unfold oneC ocN at hc; omega
  intro j hj
  have e1 : (rowI (subV xs ys) n).getD j 0 = xs.getD j 0 - ys.getD j 0 := by
    rw [rowI_get _ hj, clamp_of_over (cnt_zero h1 j hj)]; rfl
  have e2 : (odV 0 (List.replicate n 0) (rowI (subV xs ys) n) n).getD j 0 = xs.getD j 0 - ys.getD j 0 := by
    unfold odV
    rw [rowI_get _ hj]
    unfold axV
    rw [axI_m0, e1]
    have := (cnt_zero h1 j hj)
    unfold subV at this
    exact clamp_of_over this
  unfold oneP opV
  rw [rowI_get _ hj]
  unfold axV
  rw [axI_neg1, e2, show xs.getD j 0 - (xs.getD j 0 - ys.getD j 0) = ys.getD j 0 by omega]
  exact (clamp_id (hy j)).1
set_option maxHeartbeats 2000000 in
set_option maxRecDepth 100000 in
theorem oone_main (A C : Option Addr) (n cp cr : Nat) (xs ys : List Int) (w : World) (hn : n ≤ 200) (hA : Rd w none A n xs) (hC : Rd w none C n ys) (hp : All64 xs) (hg : All64 ys) :
    Calls Try.prog 7 #[.slice A n cp, .slice C n cr] w fun e w' => e = .returned (.bool true) ∧ Below w.heap.size w w' := by
  have hn0 : ∀ (B g : Nat), none = some g → g < B := by intro B g e; cases e
  have AW := Lib.hid (fun W => awake10_any W)
  have HC := Lib.hid hC
  have hlx := Lib.hid hA.1
  have hly := Lib.hid hC.1
  have hlr := Lib.hid (rowI_length (subV xs ys) n)
  have cb := cntI_bound (subV xs ys) n
  go_enter Try.func7, Try.ntmps7
  go_wp2_with (go_at_call 8; refine (AW.out _).mono ?_; rintro e w1 ⟨rfl, hb1⟩; obtain ⟨hc1, hf1, hz1⟩ := bcell hb1; (try simp at hz1); (try have : w.heap.size < w1.heap.size := by omega); (try have : w.heap.size + 1 < w1.heap.size := by omega); (try have : w.heap.size + 1 + 1 < w1.heap.size := by omega); (try have : w.heap.size + 1 + 1 + 1 < w1.heap.size := by omega); (try have : g < w1.heap.size := by omega); (try have : ga < w1.heap.size := by omega); (try have : gb < w1.heap.size := by omega); (try have : gc < w1.heap.size := by omega); have hB : Below w.heap.size w w1 := (by repeat (first | (with_reducible exact Below.refl _ _) | (with_reducible assumption) | (with_reducible refine Below.drew ?_) | (with_reducible refine Below.alloc ?_ ?_ _) | (with_reducible refine Below.setCell ?_ ?_ _) | (with_reducible refine Below.trans ?_ (Below.mono hb ?_)) | (with_reducible refine Below.trans ?_ (Below.mono hb1 ?_)) | (with_reducible refine Below.trans ?_ (Below.mono hb2 ?_)) | (with_reducible refine Below.trans ?_ (Below.mono hb3 ?_)) | (with_reducible refine Below.trans ?_ (Below.mono hb4 ?_)) | (with_reducible refine Below.trans ?_ (Below.mono hb5 ?_)) | (with_reducible refine Below.trans ?_ (Below.mono hb6 ?_)) | (with_reducible refine Below.trans ?_ (Below.mono hb7 ?_)) | (with_reducible refine Below.trans ?_ (Below.mono hb8 ?_)) | (with_reducible refine Below.trans ?_ (Below.mono hb9 ?_)) | (focus (first | omega | (simp; done) | (simp; omega))) | exact hB)))
  refine at_calls fun Wb hWb => ?_
  have un : Unt Wb (.pointer (some ⟨w1.heap.size, 0, none⟩)) (some w1.heap.size) 0 := by subst hWb; exact Unt.at_ (heap_alloc_new w1 _)
  have BWb : Below w.heap.size w Wb := by subst hWb; exact (by repeat (first | (with_reducible exact Below.refl _ _) | (with_reducible assumption) | (with_reducible refine Below.drew ?_) | (with_reducible refine Below.alloc ?_ ?_ _) | (with_reducible refine Below.setCell ?_ ?_ _) | (with_reducible refine Below.trans ?_ (Below.mono hb ?_)) | (with_reducible refine Below.trans ?_ (Below.mono hb1 ?_)) | (with_reducible refine Below.trans ?_ (Below.mono hb2 ?_)) | (with_reducible refine Below.trans ?_ (Below.mono hb3 ?_)) | (with_reducible refine Below.trans ?_ (Below.mono hb4 ?_)) | (with_reducible refine Below.trans ?_ (Below.mono hb5 ?_)) | (with_reducible refine Below.trans ?_ (Below.mono hb6 ?_)) | (with_reducible refine Below.trans ?_ (Below.mono hb7 ?_)) | (with_reducible refine Below.trans ?_ (Below.mono hb8 ?_)) | (with_reducible refine Below.trans ?_ (Below.mono hb9 ?_)) | (focus (first | omega | (simp; done) | (simp; omega))) | exact hB))
  have hGw : w.heap.size ≤ w1.heap.size := hz1
  clear hWb hc1 hf1 hb1 hB hz1 AW
  generalize w1.heap.size = G at *
  have hv1 : ∀ v : Nat, w.heap.size ≤ v → ∀ g, some v = some g → w.heap.size ≤ g := by rintro v hv g ⟨⟩; exact hv
  have aG := (hA.unit (hv1 G hGw)).call BWb
  have cG := (hC.unit (hv1 G hGw)).call BWb
  refine (delta_any A C n cp cr xs ys _ (some G) 0 Wb hp hg (by omega) aG cG un (by omega) (by omega)).mono ?_
  rintro e w2 ⟨VD, rfl, hD, hG, hUn⟩
  rw [Int.zero_add] at hUn
  have z2 := hG.size
  have zb := BWb.size
  have gl := un.lt G rfl
  obtain ⟨AD, cD, rfl, rD⟩ := hD.len (u := some G) hlr.out (by rintro _ ⟨⟩; exact gl)
  have aN := aG.grown hG
  have cN := cG.grown hG
  have BW2 : Below w.heap.size w w2 := BWb.trans (gr_new hG (B := w.heap.size) zb hGw)
  clear hD aG cG un BWb hG hA hC
  go_wp2_with fail
  refine (obegin_any A n cp xs w2 (by omega) aN.noone2).mono ?_
  rintro e w3 ⟨VP, VB, rfl, hP, hZ, hG3, hUU⟩
  clear hUU
  have hb3 := gr_none hG3
  have z3 := hb3.size
  have gl2 := hUn.lt G rfl
  obtain ⟨AP, cP, rfl, rP⟩ := hP.len (u := some G) hlx.out (by rintro _ ⟨⟩; exact gl2)
  obtain ⟨AZ, cZ, rfl, rZ⟩ := hZ.len (u := some G) (n := n) (by simp) (by rintro _ ⟨⟩; exact gl2)
  have un3 := hUn.call hb3
  have cN3 := cN.call hb3
  have rD3 := rD.call hb3
  have BW3 : Below w.heap.size w w3 := BW2.trans (hb3.mono (by omega))
  clear hG3 hP hZ aN cN rD hUn hb3
  go_wp2_with fail
  refine at_calls fun Wo hWo => ?_
  have BA : Below w3.heap.size w3 Wo := by subst hWo; exact (by repeat (first | (with_reducible exact Below.refl _ _) | (with_reducible assumption) | (with_reducible refine Below.drew ?_) | (with_reducible refine Below.alloc ?_ ?_ _) | (with_reducible refine Below.setCell ?_ ?_ _) | (with_reducible refine Below.trans ?_ (Below.mono hb ?_)) | (with_reducible refine Below.trans ?_ (Below.mono hb1 ?_)) | (with_reducible refine Below.trans ?_ (Below.mono hb2 ?_)) | (with_reducible refine Below.trans ?_ (Below.mono hb3 ?_)) | (with_reducible refine Below.trans ?_ (Below.mono hb4 ?_)) | (with_reducible refine Below.trans ?_ (Below.mono hb5 ?_)) | (with_reducible refine Below.trans ?_ (Below.mono hb6 ?_)) | (with_reducible refine Below.trans ?_ (Below.mono hb7 ?_)) | (with_reducible refine Below.trans ?_ (Below.mono hb8 ?_)) | (with_reducible refine Below.trans ?_ (Below.mono hb9 ?_)) | (focus (first | omega | (simp; done) | (simp; omega))) | exact hB))
  have ob : Wo.heap[w3.heap.size]? = some (.cells #[.slice AP n cP, .slice AZ n cZ] 28 (0, 0)) := by subst hWo; exact heap_alloc_new w3 _
  have rP4 := rP.call BA
  have rZ4 := rZ.call BA
  have rD4 := rD3.call BA
  have un4 := un3.call BA
  have cN4 := cN3.call BA
  have BW4 : Below w.heap.size w Wo := BW3.trans (BA.mono (by omega))
  have gl3 : G < w3.heap.size := un3.lt G rfl
  clear hWo rP rZ rD3 un3 cN3
  have hO3 : w.heap.size ≤ w3.heap.size := by omega
  generalize w3.heap.size = O at *
  refine (ostep_any AP AZ AD n cP cZ cD xs (List.replicate n 0) (rowI (subV xs ys) n) _ (some G) (cntI (subV xs ys) n) 4294967296 0 Wo (by omega) (by omega) (by omega) (by omega) (by omega) hp (all_zeros n) (rowI_all _ _) rP4 rZ4 rD4 un4 (by omega) (by omega)).mono ?_
  rintro e w5 ⟨VP, VB, rfl, hP, hZ, hG5, hU5⟩
  have hOl := lt_of_block ob
  have ob5 := (hG5.block O hOl (by simp; omega)).trans ob
  have z5 := hG5.size
  obtain ⟨AQ, cQ, rfl, _⟩ := hP.len (u := none) (n := n) (rowI_length _ _) (hn0 _)
  obtain ⟨AR, cR, rfl, _⟩ := hZ.len (u := none) (n := n) (rowI_length _ _) (hn0 _)
  have f0 : w5.cell? ⟨O, 0, none⟩ = some (.slice AP n cP) := by simp [World.cell?, ob5]
  have f1 : w5.cell? ⟨O, 1, none⟩ = some (.slice AZ n cZ) := by simp [World.cell?, ob5]
  have f2 : ∀ i, w5.frozen? ⟨O, i, none⟩ = false := fun i => by simp [World.frozen?, ob5]
  have kO := lt_of_block ob5
  have BW5 : Below w.heap.size w w5 := BW4.trans (gr_new hG5 (B := w.heap.size) BW4.size hGw)
  have QP := (hP.setBelow (p := ⟨O, 0, none⟩) hOl (.slice AQ n cQ)).setBelow (p := ⟨O, 1, none⟩) hOl (.slice AR n cR)
  have rQ : Rd _ none AQ n (oneP xs ys n) := still_len (rowI_length _ _) (OwnF.rdAt (u := none) QP (hn0 _))
  have BO := (bel_d O w5 ⟨O, 0, none⟩ (.slice AQ n cQ) (Nat.le_refl _)).trans (bel_d O _ ⟨O, 1, none⟩ (.slice AR n cR) (Nat.le_refl _))
  have uO := hU5.low BO (by rintro g ⟨⟩; exact gl3)
  have BWO : Below w.heap.size w _ := BW5.trans (BO.mono hO3)
  have rC := HC.out.call BWO
  have hend := Lib.hid (one_end xs ys n hg)
  rw [show cntI (subV xs ys) n + ocN 4294967296 0 xs (List.replicate n 0) (rowI (subV xs ys) n) n = oneC xs ys n from rfl] at uO
  clear QP BO hP hZ hG5 hU5 ob ob5 rP4 rZ4 rD4 un4 cN4 BW4 BA BW5 cb
  go_wp2
  generalize oneC xs ys n = cc at *
  generalize oneP xs ys n = pe at *
  refine at_world fun W0 hW0 => ?_
  rw [← hW0] at rQ uO BWO rC
  clear hW0
  go_loop [67] (fun i => ∃ k : Nat, k ≤ n ∧ i = .int .i64 k) (fun i => n - (intOf i).toNat)
  case atStart => exact ⟨0, Nat.zero_le _, rfl⟩
  case round =>
    obtain ⟨k, hk, rfl⟩ := hrel
    by_cases hlt : k < n
    · obtain ⟨b1, o1, rfl, _, _, q1⟩ := rQ.2 (by omega)
      obtain ⟨b2, o2, rfl, _, _, q2⟩ := rC.2 (by omega)
      replace q1 := q1 k hlt
      replace q2 := q2 k hlt
      by_cases hcc : cc = 0
      · have he := hend.out hcc k hlt
        rw [he] at q1
        have t0 : (cc == 0) = true := by simpa using hcc
        have C0 := Lib.hid hcc
        clear rQ rC hend he hcc
        go_wp2_with (go_at_call 13; refine (ucount_any _ (some G) cc _ uO).mono ?_; rintro e w6 ⟨rfl, rfl⟩)
        go_round
        case rel => exact ⟨k + 1, by omega, by simp⟩
        case measure => simp [intOf]; omega
      · have t0 : (cc == 0) = false := by simpa using hcc
        clear rQ rC hend
        go_wp2_with (go_at_call 13; refine (ucount_any _ (some G) cc _ uO).mono ?_; rintro e w6 ⟨rfl, rfl⟩)
        go_round
        case rel => exact ⟨k + 1, by omega, by simp⟩
        case measure => simp [intOf]; omega
    · clear rQ rC hend
      go_wp2
      go_ret
      exact ⟨rfl, BWO⟩
end Go.Proofs.Ytcdnkecgnfdfnaa
