import Derived.Test.YtikjomekhnkgcaaW0
import Derived.Deep.QuietTactic
import Derived.BigQuiet
import Derived.RegionTactic
/- Shifts of package wide. -/
namespace Go.Proofs.Ytikjomekhnkgcaa
open Go.RowKit

/-- What Shl, Shr answer. -/
def shlI (a n : Int) : Int := if n ≤ 0 then a else if 127 < n then 0 else w128 (a * 2 ^ n.toNat)
def shrI (a n : Int) : Int := if n ≤ 0 then a else if 127 < n then hi a / 9223372036854775808 else a / 2 ^ n.toNat

theorem shl_any (a n : Int) (hn : In64 n) (w : World) :
    Calls Try.prog 68 #[.agg #[.int .i64 (hi a), .int .u64 (lo a)], .int .i64 n] w fun e w' =>
      e = .returned (.agg #[.int .i64 (hi (shlI a n)), .int .u64 (lo (shlI a n))]) ∧ Below w.heap.size w w' := by
  unfold In64 at hn
  by_cases h1 : n ≤ 0
  · have e : shlI a n = a := by unfold shlI; rw [if_pos h1]
    have E := Lib.hid e; clear e
    rw [E.out]
    go_enter Try.func68, Try.ntmps68
    go_wp2
    exact bodyPost_ret (v := .agg #[.int .i64 (hi a), .int .u64 (lo a)]) (by simp [results, Try.results68, go_sem]) rfl ⟨rfl, (by repeat (first | (with_reducible exact Below.refl _ _) | (with_reducible assumption) | (with_reducible refine Below.drew ?_) | (with_reducible refine Below.alloc ?_ ?_ _) | (with_reducible refine Below.setCell ?_ ?_ _) | (with_reducible refine Below.trans ?_ (Below.mono hb ?_)) | (with_reducible refine Below.trans ?_ (Below.mono hb1 ?_)) | (with_reducible refine Below.trans ?_ (Below.mono hb2 ?_)) | (with_reducible refine Below.trans ?_ (Below.mono hb3 ?_)) | (with_reducible refine Below.trans ?_ (Below.mono hb4 ?_)) | (with_reducible refine Below.trans ?_ (Below.mono hb5 ?_)) | (with_reducible refine Below.trans ?_ (Below.mono hb6 ?_)) | (with_reducible refine Below.trans ?_ (Below.mono hb7 ?_)) | (with_reducible refine Below.trans ?_ (Below.mono hb8 ?_)) | (with_reducible refine Below.trans ?_ (Below.mono hb9 ?_)) | (focus (first | omega | (simp; done) | (simp; omega))) | exact hB))⟩
  by_cases h2 : 127 < n
  · have e : shlI a n = 0 := by unfold shlI; rw [if_neg h1, if_pos h2]
    have E := Lib.hid e; clear e
    rw [E.out]
    go_enter Try.func68, Try.ntmps68
    go_wp2
    exact bodyPost_ret (v := .agg #[.int .i64 (hi 0), .int .u64 (lo 0)]) (by simp [results, Try.results68, go_sem]; decide) rfl ⟨rfl, (by repeat (first | (with_reducible exact Below.refl _ _) | (with_reducible assumption) | (with_reducible refine Below.drew ?_) | (with_reducible refine Below.alloc ?_ ?_ _) | (with_reducible refine Below.setCell ?_ ?_ _) | (with_reducible refine Below.trans ?_ (Below.mono hb ?_)) | (with_reducible refine Below.trans ?_ (Below.mono hb1 ?_)) | (with_reducible refine Below.trans ?_ (Below.mono hb2 ?_)) | (with_reducible refine Below.trans ?_ (Below.mono hb3 ?_)) | (with_reducible refine Below.trans ?_ (Below.mono hb4 ?_)) | (with_reducible refine Below.trans ?_ (Below.mono hb5 ?_)) | (with_reducible refine Below.trans ?_ (Below.mono hb6 ?_)) | (with_reducible refine Below.trans ?_ (Below.mono hb7 ?_)) | (with_reducible refine Below.trans ?_ (Below.mono hb8 ?_)) | (with_reducible refine Below.trans ?_ (Below.mono hb9 ?_)) | (focus (first | omega | (simp; done) | (simp; omega))) | exact hB))⟩
  have e : shlI a n = w128 (a * 2 ^ n.toNat) := by unfold shlI; rw [if_neg h1, if_neg h2]
  have E := Lib.hid e; clear e
  rw [E.out]
  by_cases h3 : 64 ≤ n
  · have e := shl_big_hi a (n - 64).toNat
    rw [show (n - 64).toNat + 64 = n.toNat by omega] at e
    have E2 := Lib.hid e; clear e
    go_enter Try.func68, Try.ntmps68
    go_wp2
    rw [← E2.out.1]
    exact bodyPost_ret (v := .agg #[.int .i64 (hi (w128 (a * 2 ^ n.toNat))), .int .u64 (lo (w128 (a * 2 ^ n.toNat)))]) (by rw [E2.out.2]; simp [results, Try.results68, go_sem]) rfl ⟨rfl, (by repeat (first | (with_reducible exact Below.refl _ _) | (with_reducible assumption) | (with_reducible refine Below.drew ?_) | (with_reducible refine Below.alloc ?_ ?_ _) | (with_reducible refine Below.setCell ?_ ?_ _) | (with_reducible refine Below.trans ?_ (Below.mono hb ?_)) | (with_reducible refine Below.trans ?_ (Below.mono hb1 ?_)) | (with_reducible refine Below.trans ?_ (Below.mono hb2 ?_)) | (with_reducible refine Below.trans ?_ (Below.mono hb3 ?_)) | (with_reducible refine Below.trans ?_ (Below.mono hb4 ?_)) | (with_reducible refine Below.trans ?_ (Below.mono hb5 ?_)) | (with_reducible refine Below.trans ?_ (Below.mono hb6 ?_)) | (with_reducible refine Below.trans ?_ (Below.mono hb7 ?_)) | (with_reducible refine Below.trans ?_ (Below.mono hb8 ?_)) | (with_reducible refine Below.trans ?_ (Below.mono hb9 ?_)) | (focus (first | omega | (simp; done) | (simp; omega))) | exact hB))⟩
  · have e1 := shl_hi a n.toNat (by omega)
    have e2 := shl_lo a n.toNat (by omega)
    rw [show 64 - n.toNat = (64 - n).toNat by omega] at e1
    have E1 := Lib.hid e1; have E2 := Lib.hid e2; clear e1 e2
    have h4 : 0 < n := by omega
    have h5 : n < 64 := by omega
    go_enter Try.func68, Try.ntmps68
    go_wp2
    go_region
    go_wp2
    rw [← E1.out, ← E2.out]
    exact bodyPost_ret (v := .agg #[.int .i64 (hi (w128 (a * 2 ^ n.toNat))), .int .u64 (lo (w128 (a * 2 ^ n.toNat)))]) (by simp [results, Try.results68, go_sem]) rfl ⟨rfl, (by repeat (first | (with_reducible exact Below.refl _ _) | (with_reducible assumption) | (with_reducible refine Below.drew ?_) | (with_reducible refine Below.alloc ?_ ?_ _) | (with_reducible refine Below.setCell ?_ ?_ _) | (with_reducible refine Below.trans ?_ (Below.mono hb ?_)) | (with_reducible refine Below.trans ?_ (Below.mono hb1 ?_)) | (with_reducible refine Below.trans ?_ (Below.mono hb2 ?_)) | (with_reducible refine Below.trans ?_ (Below.mono hb3 ?_)) | (with_reducible refine Below.trans ?_ (Below.mono hb4 ?_)) | (with_reducible refine Below.trans ?_ (Below.mono hb5 ?_)) | (with_reducible refine Below.trans ?_ (Below.mono hb6 ?_)) | (with_reducible refine Below.trans ?_ (Below.mono hb7 ?_)) | (with_reducible refine Below.trans ?_ (Below.mono hb8 ?_)) | (with_reducible refine Below.trans ?_ (Below.mono hb9 ?_)) | (focus (first | omega | (simp; done) | (simp; omega))) | exact hB))⟩

theorem shr_any (a n : Int) (ha : In128 a) (hn : In64 n) (w : World) :
    Calls Try.prog 97 #[.agg #[.int .i64 (hi a), .int .u64 (lo a)], .int .i64 n] w fun e w' =>
      e = .returned (.agg #[.int .i64 (hi (shrI a n)), .int .u64 (lo (shrI a n))]) ∧ Below w.heap.size w w' := by
  unfold In64 at hn
  by_cases h1 : n ≤ 0
  · have e : shrI a n = a := by unfold shrI; rw [if_pos h1]
    have E := Lib.hid e; clear e
    rw [E.out]
    go_enter Try.func97, Try.ntmps97
    go_wp2
    exact bodyPost_ret (v := .agg #[.int .i64 (hi a), .int .u64 (lo a)]) (by simp [results, Try.results97, go_sem]) rfl ⟨rfl, (by repeat (first | (with_reducible exact Below.refl _ _) | (with_reducible assumption) | (with_reducible refine Below.drew ?_) | (with_reducible refine Below.alloc ?_ ?_ _) | (with_reducible refine Below.setCell ?_ ?_ _) | (with_reducible refine Below.trans ?_ (Below.mono hb ?_)) | (with_reducible refine Below.trans ?_ (Below.mono hb1 ?_)) | (with_reducible refine Below.trans ?_ (Below.mono hb2 ?_)) | (with_reducible refine Below.trans ?_ (Below.mono hb3 ?_)) | (with_reducible refine Below.trans ?_ (Below.mono hb4 ?_)) | (with_reducible refine Below.trans ?_ (Below.mono hb5 ?_)) | (with_reducible refine Below.trans ?_ (Below.mono hb6 ?_)) | (with_reducible refine Below.trans ?_ (Below.mono hb7 ?_)) | (with_reducible refine Below.trans ?_ (Below.mono hb8 ?_)) | (with_reducible refine Below.trans ?_ (Below.mono hb9 ?_)) | (focus (first | omega | (simp; done) | (simp; omega))) | exact hB))⟩
  have ho := fun m (hm : In64 m) W => of_any m hm W
  have HO := Lib.hid ho; clear ho
  by_cases h2 : 127 < n
  · have e : shrI a n = hi a / 9223372036854775808 := by unfold shrI; rw [if_neg h1, if_pos h2]
    have E := Lib.hid e; clear e
    rw [E.out]
    have hk : In64 (hi a / 9223372036854775808) := by have := hi_in ha; unfold In64 at this ⊢; omega
    have HK := Lib.hid hk; clear hk
    go_enter Try.func97, Try.ntmps97
    go_wp2_with (go_at_call 69; refine (HO.out _ HK.out _).mono ?_; rintro e w1 ⟨rfl, hb1⟩; obtain ⟨hc1, hf1, hz1⟩ := bcell hb1; (try simp at hz1); (try have : w.heap.size < w1.heap.size := by omega); (try have : w.heap.size + 1 < w1.heap.size := by omega); (try have : w.heap.size + 1 + 1 < w1.heap.size := by omega); (try have : w.heap.size + 1 + 1 + 1 < w1.heap.size := by omega); (try have : g < w1.heap.size := by omega); (try have : ga < w1.heap.size := by omega); (try have : gb < w1.heap.size := by omega); (try have : gc < w1.heap.size := by omega))
    exact bodyPost_ret (v := .agg #[.int .i64 (hi (hi a / 9223372036854775808)), .int .u64 (lo (hi a / 9223372036854775808))]) (by simp [results, Try.results97, go_sem, hc1]) rfl ⟨rfl, (by repeat (first | (with_reducible exact Below.refl _ _) | (with_reducible assumption) | (with_reducible refine Below.drew ?_) | (with_reducible refine Below.alloc ?_ ?_ _) | (with_reducible refine Below.setCell ?_ ?_ _) | (with_reducible refine Below.trans ?_ (Below.mono hb ?_)) | (with_reducible refine Below.trans ?_ (Below.mono hb1 ?_)) | (with_reducible refine Below.trans ?_ (Below.mono hb2 ?_)) | (with_reducible refine Below.trans ?_ (Below.mono hb3 ?_)) | (with_reducible refine Below.trans ?_ (Below.mono hb4 ?_)) | (with_reducible refine Below.trans ?_ (Below.mono hb5 ?_)) | (with_reducible refine Below.trans ?_ (Below.mono hb6 ?_)) | (with_reducible refine Below.trans ?_ (Below.mono hb7 ?_)) | (with_reducible refine Below.trans ?_ (Below.mono hb8 ?_)) | (with_reducible refine Below.trans ?_ (Below.mono hb9 ?_)) | (focus (first | omega | (simp; done) | (simp; omega))) | exact hB))⟩
  have e : shrI a n = a / 2 ^ n.toNat := by unfold shrI; rw [if_neg h1, if_neg h2]
  have E := Lib.hid e; clear e
  rw [E.out]
  by_cases h3 : 64 ≤ n
  · have e := shr_big a (n - 64).toNat ha
    rw [show (n - 64).toNat + 64 = n.toNat by omega] at e
    have E2 := Lib.hid e; clear e
    rw [E2.out.2]
    go_enter Try.func97, Try.ntmps97
    go_wp2_with (go_at_call 69; refine (HO.out _ E2.out.1 _).mono ?_; rintro e w1 ⟨rfl, hb1⟩; obtain ⟨hc1, hf1, hz1⟩ := bcell hb1; (try simp at hz1); (try have : w.heap.size < w1.heap.size := by omega); (try have : w.heap.size + 1 < w1.heap.size := by omega); (try have : w.heap.size + 1 + 1 < w1.heap.size := by omega); (try have : w.heap.size + 1 + 1 + 1 < w1.heap.size := by omega); (try have : g < w1.heap.size := by omega); (try have : ga < w1.heap.size := by omega); (try have : gb < w1.heap.size := by omega); (try have : gc < w1.heap.size := by omega))
    exact bodyPost_ret (v := .agg #[.int .i64 (hi (hi a / 2 ^ (n - 64).toNat)), .int .u64 (lo (hi a / 2 ^ (n - 64).toNat))]) (by simp [results, Try.results97, go_sem, hc1]) rfl ⟨rfl, (by repeat (first | (with_reducible exact Below.refl _ _) | (with_reducible assumption) | (with_reducible refine Below.drew ?_) | (with_reducible refine Below.alloc ?_ ?_ _) | (with_reducible refine Below.setCell ?_ ?_ _) | (with_reducible refine Below.trans ?_ (Below.mono hb ?_)) | (with_reducible refine Below.trans ?_ (Below.mono hb1 ?_)) | (with_reducible refine Below.trans ?_ (Below.mono hb2 ?_)) | (with_reducible refine Below.trans ?_ (Below.mono hb3 ?_)) | (with_reducible refine Below.trans ?_ (Below.mono hb4 ?_)) | (with_reducible refine Below.trans ?_ (Below.mono hb5 ?_)) | (with_reducible refine Below.trans ?_ (Below.mono hb6 ?_)) | (with_reducible refine Below.trans ?_ (Below.mono hb7 ?_)) | (with_reducible refine Below.trans ?_ (Below.mono hb8 ?_)) | (with_reducible refine Below.trans ?_ (Below.mono hb9 ?_)) | (focus (first | omega | (simp; done) | (simp; omega))) | exact hB))⟩
  · have e1 := shr_hi a n.toNat (by omega)
    have e2 := shr_lo a n.toNat (by omega)
    rw [show 64 - n.toNat = (64 - n).toNat by omega] at e2
    have E1 := Lib.hid e1; have E2 := Lib.hid e2; clear e1 e2
    have h4 : 0 < n := by omega
    have h5 : n < 64 := by omega
    go_enter Try.func97, Try.ntmps97
    go_wp2
    go_region
    go_wp2
    rw [← E1.out, ← E2.out]
    exact bodyPost_ret (v := .agg #[.int .i64 (hi (a / 2 ^ n.toNat)), .int .u64 (lo (a / 2 ^ n.toNat))]) (by simp [results, Try.results97, go_sem]) rfl ⟨rfl, (by repeat (first | (with_reducible exact Below.refl _ _) | (with_reducible assumption) | (with_reducible refine Below.drew ?_) | (with_reducible refine Below.alloc ?_ ?_ _) | (with_reducible refine Below.setCell ?_ ?_ _) | (with_reducible refine Below.trans ?_ (Below.mono hb ?_)) | (with_reducible refine Below.trans ?_ (Below.mono hb1 ?_)) | (with_reducible refine Below.trans ?_ (Below.mono hb2 ?_)) | (with_reducible refine Below.trans ?_ (Below.mono hb3 ?_)) | (with_reducible refine Below.trans ?_ (Below.mono hb4 ?_)) | (with_reducible refine Below.trans ?_ (Below.mono hb5 ?_)) | (with_reducible refine Below.trans ?_ (Below.mono hb6 ?_)) | (with_reducible refine Below.trans ?_ (Below.mono hb7 ?_)) | (with_reducible refine Below.trans ?_ (Below.mono hb8 ?_)) | (with_reducible refine Below.trans ?_ (Below.mono hb9 ?_)) | (focus (first | omega | (simp; done) | (simp; omega))) | exact hB))⟩
end Go.Proofs.Ytikjomekhnkgcaa
