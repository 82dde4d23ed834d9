import Derived.Test.YtikjomekhnkgcaaD8
import Derived.Test.YtikjomekhnkgcaaE2
import Derived.Test.YtikjomekhnkgcaaRowL
/- The law VecShorter, walked. -/
namespace Go.Proofs.Ytikjomekhnkgcaa
open Go.RowKit
attribute [local go_sem ↓] Go.wp_at_zero Go.wp_at_succ

theorem own_rdy {B n : Nat} {w : World} {V : Value} {xs : List Int} (h : OwnF B w V xs) (hl : xs.length = n) : ∃ A c, V = .slice A n c ∧ Rd w none A n xs := by
  subst hl
  obtain ⟨A, c, e, hr⟩ := own_apart (S := fun _ => False) h fun g _ hs => hs
  exact ⟨A, c, e, hr.none_⟩
set_option maxHeartbeats 8000000 in
set_option maxRecDepth 100000 in
theorem vshort_main (A : Option Addr) (n cp : Nat) (xs : List Int) (most : Int) (w : World) (hn : n ≤ 200) (hm0 : 0 < most) (hA : Rd w none A n xs) (ha : All64 xs) (hm : In64 most) :
    Calls Try.prog 11 #[.slice A n cp, .int .i64 most] w fun e w' => e = .returned (.bool true) ∧ Below w.heap.size w w' := by
  have AW := Lib.hid (fun W => awake4_any W)
  have T1 := Lib.hid (decide_eq_true hn)
  have HA := Lib.hid hA
  have HM := Lib.hid hm
  have hmn : ¬ most ≤ 0 := by omega
  have SB := Lib.hid (slkS_bd ha n)
  have SX := Lib.hid ha
  clear hm hA ha
  go_enter Try.func11, Try.ntmps11
  go_upto_region 6 with (first
    | (go_at_call 13; refine (AW.out _).mono ?_; rintro e w1 ⟨rfl, hb1⟩; obtain ⟨hc1, hf1, hz1⟩ := bcell hb1; (try simp at hz1); (try have : w.heap.size < w1.heap.size := by omega); (try have : w.heap.size + 1 < w1.heap.size := by omega); (try have : w.heap.size + 1 + 1 < w1.heap.size := by omega); (try have : w.heap.size + 1 + 1 + 1 < w1.heap.size := by omega); (try have : g < w1.heap.size := by omega); (try have : ga < w1.heap.size := by omega); (try have : gb < w1.heap.size := by omega); (try have : gc < w1.heap.size := by omega); have hB : Below w.heap.size w w1 := (by repeat (first | (with_reducible exact Below.refl _ _) | (with_reducible assumption) | (with_reducible refine Below.drew ?_) | (with_reducible refine Below.alloc ?_ ?_ _) | (with_reducible refine Below.setCell ?_ ?_ _) | (with_reducible refine Below.trans ?_ (Below.mono hb ?_)) | (with_reducible refine Below.trans ?_ (Below.mono hb1 ?_)) | (with_reducible refine Below.trans ?_ (Below.mono hb2 ?_)) | (with_reducible refine Below.trans ?_ (Below.mono hb3 ?_)) | (with_reducible refine Below.trans ?_ (Below.mono hb4 ?_)) | (with_reducible refine Below.trans ?_ (Below.mono hb5 ?_)) | (with_reducible refine Below.trans ?_ (Below.mono hb6 ?_)) | (with_reducible refine Below.trans ?_ (Below.mono hb7 ?_)) | (with_reducible refine Below.trans ?_ (Below.mono hb8 ?_)) | (with_reducible refine Below.trans ?_ (Below.mono hb9 ?_)) | (focus (first | omega | (simp; done) | (simp; omega))) | exact hB)))
    | (go_at_call 14; refine (few4_one A n cp _ _ (by simp)).mono ?_; rw [T1.out]; rintro e w2 ⟨rfl, rfl⟩))
  refine at_world fun Wb hWb => ?_
  have tw : Unt Wb (.pointer (some ⟨w1.heap.size + 1, 0, none⟩)) (some (w1.heap.size + 1)) 0 ∧ Below w.heap.size w Wb := by
    subst hWb
    exact ⟨Unt.at_ (newest_at _ _ (by simp)), (by repeat (first | (with_reducible exact Below.refl _ _) | (with_reducible assumption) | (with_reducible refine Below.drew ?_) | (with_reducible refine Below.alloc ?_ ?_ _) | (with_reducible refine Below.setCell ?_ ?_ _) | (with_reducible refine Below.trans ?_ (Below.mono hb ?_)) | (with_reducible refine Below.trans ?_ (Below.mono hb1 ?_)) | (with_reducible refine Below.trans ?_ (Below.mono hb2 ?_)) | (with_reducible refine Below.trans ?_ (Below.mono hb3 ?_)) | (with_reducible refine Below.trans ?_ (Below.mono hb4 ?_)) | (with_reducible refine Below.trans ?_ (Below.mono hb5 ?_)) | (with_reducible refine Below.trans ?_ (Below.mono hb6 ?_)) | (with_reducible refine Below.trans ?_ (Below.mono hb7 ?_)) | (with_reducible refine Below.trans ?_ (Below.mono hb8 ?_)) | (with_reducible refine Below.trans ?_ (Below.mono hb9 ?_)) | (focus (first | omega | (simp; done) | (simp; omega))) | exact hB))⟩
  have hG : w.heap.size ≤ w1.heap.size + 1 := by omega
  clear hWb hb1 hc1 hf1 hB
  generalize w1.heap.size + 1 = G at *
  obtain ⟨tU, tB⟩ := tw
  have rA := (HA.out.unit (v := some G) (by intro g e; injection e; omega)).call tB
  go_upto_region 9 with (go_at_call 46; refine (vclip_short A n cp xs _ _ 0 most _ hm0 HM.out SX.out (by omega) rA tU (by omega) (by omega)).mono ?_; rintro e w3 ⟨V, cut, vs, m, rfl, hO, hg, hU3, hl, hm1, hS⟩; obtain ⟨A3, c3, rfl, rL⟩ := own_rdy hO hl)
  have b3 := tB.trans (gr_new hg tB.size hG)
  rw [Int.zero_add] at hU3
  have rX := HA.out.call b3
  clear hO rA tU tB
  have TL := Lib.hid hl
  clear hl hg
  by_cases hm2 : m = 0
  · have HS := Lib.hid (hS hm2).1
    have HD := Lib.hid (hS hm2).2
    subst hm2
    clear hS
    go_upto_region 12 with (go_at_call 28; refine (ucnt G 0 _ hU3).mono ?_; rintro e w4 ⟨rfl, hb4⟩)
    have rL4 := rL.call hb4
    have rX4 := rX.call hb4
    have b4 := b3.trans (hb4.mono b3.size)
    clear rL rX b3 hb4 hU3
    go_loopw [50] (fun i w9 => ∃ k : Nat, k ≤ n ∧ i = .int .i64 k ∧ w9 = w4) (fun i _ => n - (intOf i).toNat)
    case atStart => exact ⟨0, Nat.zero_le _, rfl, rfl⟩
    case round =>
      obtain ⟨k, hk, rfl, rfl⟩ := hrel
      by_cases hlt : k < n
      · obtain ⟨b1, o1, rfl, l1, _, d1⟩ := rL4.2 (by omega)
        obtain ⟨b2, o2, rfl, l2, _, d2⟩ := rX4.2 (by omega)
        have x1 := d1 k hlt
        have x2 := d2 k hlt
        have ia : (0 : Int) ≤ (k : Int) := by omega
        have ib : (k : Int) < (n : Int) := by omega
        obtain ⟨s1, s2, s3⟩ := HS.out.2.1 k hlt
        clear d1 d2
        generalize vs.getD k 0 = l at *
        generalize xs.getD k 0 = a at *
        have n1 : 0 < l → ¬ a < l := fun h => by have := s2 h; omega
        have n2 : l < 0 → ¬ l < a := fun h => by have := s3 h; omega
        rcases Int.lt_trichotomy l 0 with h | h | h
        · have n3 : ¬ 0 < l := by omega
          have n4 := n2 h
          have n5 : a < 0 := by have := s3 h; omega
          have n6 : ¬ 0 < a := by omega
          cases cut
          · obtain rfl := s1 rfl
            clear s1 s2 s3 n1 n2
            go_wp2_with fail
            go_roundw
            case rel => exact ⟨k + 1, by omega, by simp⟩
            case measure => simp [intOf]; omega
          · clear s1 s2 s3 n1 n2
            go_wp2_with fail
            go_roundw
            case rel => exact ⟨k + 1, by omega, by simp⟩
            case measure => simp [intOf]; omega
        · subst h
          cases cut
          · obtain rfl := s1 rfl
            clear s1 s2 s3 n1 n2
            go_wp2_with fail
            go_roundw
            case rel => exact ⟨k + 1, by omega, by simp⟩
            case measure => simp [intOf]; omega
          · clear s1 s2 s3 n1 n2
            go_wp2_with fail
            go_roundw
            case rel => exact ⟨k + 1, by omega, by simp⟩
            case measure => simp [intOf]; omega
        · have n3 : ¬ l < 0 := by omega
          have n4 := n1 h
          have n5 : 0 < a := by have := s2 h; omega
          have n6 : ¬ a < 0 := by omega
          cases cut
          · obtain rfl := s1 rfl
            clear s1 s2 s3 n1 n2
            go_wp2_with fail
            go_roundw
            case rel => exact ⟨k + 1, by omega, by simp⟩
            case measure => simp [intOf]; omega
          · clear s1 s2 s3 n1 n2
            go_wp2_with fail
            go_roundw
            case rel => exact ⟨k + 1, by omega, by simp⟩
            case measure => simp [intOf]; omega
      · obtain ⟨z, hz⟩ : ∃ z, z = n + 2 := ⟨_, rfl⟩
        have i1 : IntKind.i64.wrap ((n : Int) + 2) = (z : Int) := by rw [show (n : Int) + 2 = (z : Int) by omega]; exact IntWalk.i64_in _ (by omega)
        have HZ := Lib.hid hz
        clear hz
        obtain ⟨nm, hnm⟩ : ∃ nm, nrmI (dotI vs vs 0 1 n) = nm := ⟨_, rfl⟩
        have nb := nrmI_in (dotI_sq vs n)
        have HN := Lib.hid HS.out.2.2
        rw [hnm] at nb HN
        go_upto_region 18 with (go_at_call 47; refine (vnorm_any (.pointer none) none 0 A3 n c3 vs _ (by omega) rL4 HS.out.1 (Unt.nil _ _) (by omega) (by omega)).mono ?_; rw [hnm]; rintro e w5 ⟨rfl, hg5, _⟩; have hb5 := gr_none hg5)
        have rX5 := rX4.call hb5
        have b5 := b4.trans (hb5.mono b4.size)
        clear hb5 hg5 rX4 rL4 b4 hnm
        go_upto_region 20 with fail
        go_loopw [13, 122] (fun v i w9 => ∃ k : Nat, k ≤ n ∧ i = .int .i64 k ∧ v = .int .i64 (z + slkS xs k) ∧ w9 = w5) (fun _ i _ => n - (intOf i).toNat)
        case atStart => exact ⟨0, Nat.zero_le _, rfl, by simp [slkS], rfl⟩
        case round =>
          obtain ⟨j, hj, rfl, rfl, rfl⟩ := hrel
          by_cases hlj : j < n
          · obtain ⟨b2, o2, rfl, l2, _, d2⟩ := rX5.2 (by omega)
            have x2 := d2 j hlj
            have ia : (0 : Int) ≤ (j : Int) := by omega
            have ib : (j : Int) < (n : Int) := by omega
            have x64 := SX.out j
            have xne := short_one hlj HD.out
            have sj := slkS_bd SX.out j
            have es : slkS xs (j + 1) = slkS xs j + max (xs.getD j 0) (-xs.getD j 0) / 4294967296 := rfl
            unfold In64 at x64
            clear d2
            generalize xs.getD j 0 = x at *
            have i2 : IntKind.i64.wrap (-x) = -x := IntWalk.i64_in _ (by omega)
            have i3 : IntKind.i64.wrap ((z : Int) + slkS xs j + max x (-x) / 4294967296) = (z : Int) + slkS xs (j + 1) := by rw [es, ← Int.add_assoc]; exact IntWalk.i64_in _ (by have := HZ.out; omega)
            clear x64 xne sj es
            go_wp2_with fail
            go_roundw
            case rel => exact ⟨j + 1, by omega, by simp, rfl, trivial⟩
            case measure => simp [intOf]; omega
          · obtain rfl : j = n := by omega
            have h9 : nm - most ≤ (z : Int) + slkS xs j := by have := HN.out; have := HZ.out; omega
            generalize slkS xs j = s at *
            have hmz := HM.out
            unfold In64 at hmz
            have i4 : IntKind.i64.wrap (nm - most) = nm - most := IntWalk.i64_in _ (by omega)
            clear hmz
            by_cases hle : nm ≤ most
            · go_wp2_with fail
              go_ret
              exact ⟨rfl, b5⟩
            · go_wp2_with fail
              go_ret
              exact ⟨rfl, b5⟩
  · have hm3 : 0 < m := by omega
    go_wp2_with (go_at_call 28; refine (ucnt G m _ hU3).mono ?_; rintro e w4 ⟨rfl, hb4⟩)
    go_ret
    exact ⟨rfl, b3.trans (hb4.mono b3.size)⟩
theorem vecShorter_walk (A : Option Addr) (n cp : Nat) (xs : List Int) (most : Int) (w : World) (i0 : Row64 w A n xs) (i1 : In64 most) :
    Calls Try.prog 11 #[.slice A n cp, .int .i64 most] w fun e w' => e = .returned (.bool true) ∧ Below w.heap.size w w' := by
  by_cases h : n ≤ 200
  · by_cases h2 : 0 < most
    · exact vshort_main A n cp xs most w h h2 i0.1 i0.2 i1
    · have AW := Lib.hid (fun W => awake4_any W)
      have T1 := Lib.hid (decide_eq_true h)
      have hle : most ≤ 0 := by omega
      clear h h2
      go_enter Try.func11, Try.ntmps11
      go_wp2_with (first
        | (go_at_call 13; refine (AW.out _).mono ?_; rintro e w1 ⟨rfl, hb1⟩; obtain ⟨hc1, hf1, hz1⟩ := bcell hb1; (try simp at hz1); (try have : w.heap.size < w1.heap.size := by omega); (try have : w.heap.size + 1 < w1.heap.size := by omega); (try have : w.heap.size + 1 + 1 < w1.heap.size := by omega); (try have : w.heap.size + 1 + 1 + 1 < w1.heap.size := by omega); (try have : g < w1.heap.size := by omega); (try have : ga < w1.heap.size := by omega); (try have : gb < w1.heap.size := by omega); (try have : gc < w1.heap.size := by omega); have hB : Below w.heap.size w w1 := (by repeat (first | (with_reducible exact Below.refl _ _) | (with_reducible assumption) | (with_reducible refine Below.drew ?_) | (with_reducible refine Below.alloc ?_ ?_ _) | (with_reducible refine Below.setCell ?_ ?_ _) | (with_reducible refine Below.trans ?_ (Below.mono hb ?_)) | (with_reducible refine Below.trans ?_ (Below.mono hb1 ?_)) | (with_reducible refine Below.trans ?_ (Below.mono hb2 ?_)) | (with_reducible refine Below.trans ?_ (Below.mono hb3 ?_)) | (with_reducible refine Below.trans ?_ (Below.mono hb4 ?_)) | (with_reducible refine Below.trans ?_ (Below.mono hb5 ?_)) | (with_reducible refine Below.trans ?_ (Below.mono hb6 ?_)) | (with_reducible refine Below.trans ?_ (Below.mono hb7 ?_)) | (with_reducible refine Below.trans ?_ (Below.mono hb8 ?_)) | (with_reducible refine Below.trans ?_ (Below.mono hb9 ?_)) | (focus (first | omega | (simp; done) | (simp; omega))) | exact hB)))
        | (go_at_call 14; refine (few4_one A n cp _ _ (by simp)).mono ?_; rw [T1.out]; rintro e w2 ⟨rfl, rfl⟩))
      go_ret
      exact ⟨rfl, (by repeat (first | (with_reducible exact Below.refl _ _) | (with_reducible assumption) | (with_reducible refine Below.drew ?_) | (with_reducible refine Below.alloc ?_ ?_ _) | (with_reducible refine Below.setCell ?_ ?_ _) | (with_reducible refine Below.trans ?_ (Below.mono hb ?_)) | (with_reducible refine Below.trans ?_ (Below.mono hb1 ?_)) | (with_reducible refine Below.trans ?_ (Below.mono hb2 ?_)) | (with_reducible refine Below.trans ?_ (Below.mono hb3 ?_)) | (with_reducible refine Below.trans ?_ (Below.mono hb4 ?_)) | (with_reducible refine Below.trans ?_ (Below.mono hb5 ?_)) | (with_reducible refine Below.trans ?_ (Below.mono hb6 ?_)) | (with_reducible refine Below.trans ?_ (Below.mono hb7 ?_)) | (with_reducible refine Below.trans ?_ (Below.mono hb8 ?_)) | (with_reducible refine Below.trans ?_ (Below.mono hb9 ?_)) | (focus (first | omega | (simp; done) | (simp; omega))) | exact hB))⟩
  · have AW := Lib.hid (fun W => awake4_any W)
    have T1 := Lib.hid (decide_eq_false h)
    clear h
    go_enter Try.func11, Try.ntmps11
    go_wp2_with (first
      | (go_at_call 13; refine (AW.out _).mono ?_; rintro e w1 ⟨rfl, hb1⟩; obtain ⟨hc1, hf1, hz1⟩ := bcell hb1; (try simp at hz1); (try have : w.heap.size < w1.heap.size := by omega); (try have : w.heap.size + 1 < w1.heap.size := by omega); (try have : w.heap.size + 1 + 1 < w1.heap.size := by omega); (try have : w.heap.size + 1 + 1 + 1 < w1.heap.size := by omega); (try have : g < w1.heap.size := by omega); (try have : ga < w1.heap.size := by omega); (try have : gb < w1.heap.size := by omega); (try have : gc < w1.heap.size := by omega); have hB : Below w.heap.size w w1 := (by repeat (first | (with_reducible exact Below.refl _ _) | (with_reducible assumption) | (with_reducible refine Below.drew ?_) | (with_reducible refine Below.alloc ?_ ?_ _) | (with_reducible refine Below.setCell ?_ ?_ _) | (with_reducible refine Below.trans ?_ (Below.mono hb ?_)) | (with_reducible refine Below.trans ?_ (Below.mono hb1 ?_)) | (with_reducible refine Below.trans ?_ (Below.mono hb2 ?_)) | (with_reducible refine Below.trans ?_ (Below.mono hb3 ?_)) | (with_reducible refine Below.trans ?_ (Below.mono hb4 ?_)) | (with_reducible refine Below.trans ?_ (Below.mono hb5 ?_)) | (with_reducible refine Below.trans ?_ (Below.mono hb6 ?_)) | (with_reducible refine Below.trans ?_ (Below.mono hb7 ?_)) | (with_reducible refine Below.trans ?_ (Below.mono hb8 ?_)) | (with_reducible refine Below.trans ?_ (Below.mono hb9 ?_)) | (focus (first | omega | (simp; done) | (simp; omega))) | exact hB)))
      | (go_at_call 14; refine (few4_one A n cp _ _ (by simp)).mono ?_; rw [T1.out]; rintro e w2 ⟨rfl, rfl⟩))
    go_ret
    exact ⟨rfl, (by repeat (first | (with_reducible exact Below.refl _ _) | (with_reducible assumption) | (with_reducible refine Below.drew ?_) | (with_reducible refine Below.alloc ?_ ?_ _) | (with_reducible refine Below.setCell ?_ ?_ _) | (with_reducible refine Below.trans ?_ (Below.mono hb ?_)) | (with_reducible refine Below.trans ?_ (Below.mono hb1 ?_)) | (with_reducible refine Below.trans ?_ (Below.mono hb2 ?_)) | (with_reducible refine Below.trans ?_ (Below.mono hb3 ?_)) | (with_reducible refine Below.trans ?_ (Below.mono hb4 ?_)) | (with_reducible refine Below.trans ?_ (Below.mono hb5 ?_)) | (with_reducible refine Below.trans ?_ (Below.mono hb6 ?_)) | (with_reducible refine Below.trans ?_ (Below.mono hb7 ?_)) | (with_reducible refine Below.trans ?_ (Below.mono hb8 ?_)) | (with_reducible refine Below.trans ?_ (Below.mono hb9 ?_)) | (focus (first | omega | (simp; done) | (simp; omega))) | exact hB))⟩
end Go.Proofs.Ytikjomekhnkgcaa
