import Derived.Test.YtdnccplmpgcleaaB3
/- The reference's numbers as bits: Word, Words. -/
namespace Go.Proofs.Ytdnccplmpgcleaa
open Go.RowKit

/-- The words of a number. -/
def wd (j : Nat) (x : Int) : Int := x / 2 ^ (64 * j) % 18446744073709551616
theorem wd_u (j : Nat) (x : Int) : U64 (wd j x) := by unfold U64 wd; omega
theorem wd_bit (i k : Nat) (x : Int) (hk : k < 64) : wrap64 (bits .and .u64 (wd i x / 2 ^ k) 1) = bitI (64 * i + k) x := by
  have := u64_bit (x / 2 ^ (64 * i)) k hk
  rw [u64w] at this
  rw [bit_shr, Nat.add_comm] at this
  exact this
/-- Block g holds m words. -/
def Wd (w : World) (g m : Nat) (x : Int) : Prop := g < w.heap.size ∧ ∀ j, j < m → w.cell? ⟨g, j, none⟩ = some (.int .u64 (wd j x))
theorem Wd.call {w w' : World} {g m : Nat} {x : Int} (h : Wd w g m x) (hb : Below w.heap.size w w') : Wd w' g m x :=
  ⟨by have := hb.size; have := h.1; omega, fun j hj => (hb.cell (p := ⟨g, j, none⟩) h.1).trans (h.2 j hj)⟩

set_option maxHeartbeats 1000000 in
theorem rword_any (g c : Nat) (x : Int) (m : Nat) (hm0 : 0 < m) (hm : m < 10) (w : World) (hb : Wd w g m x) :
    Calls Try.prog 49 #[.slice (some ⟨g, 0, none⟩) m c] w fun e w' => Own w w' e (64 * m) x := by
  go_enter Try.func49, Try.ntmps49
  go_wp2
  go_loopw [3, 4] (fun v i wr => ∃ k : Nat, k ≤ m ∧ i = .int .i64 k ∧ wr.ownsRow w.heap.size 3 1 v (64 * k) (bitL (64 * k) x) ∧ Below w.heap.size w wr) (fun _ i _ => m - (intOf i).toNat)
  case atStart => exact ⟨0, Nat.zero_le _, rfl, World.ownsRow_nil _ _ _ _, (by repeat (first | exact Below.refl _ _ | refine Below.drew ?_ | refine Below.alloc ?_ (by first | omega | (simp; done) | (simp; omega)) _ | refine Below.setCell ?_ (by first | omega | (simp; done) | (simp; omega)) _ | exact BC | exact BW | exact hB | refine Below.trans ?_ (Below.mono hb1 (by first | omega | (simp; done) | (simp; omega))) | refine Below.trans ?_ (Below.mono hb2 (by first | omega | (simp; done) | (simp; omega))) | refine Below.trans ?_ (Below.mono hb3 (by first | omega | (simp; done) | (simp; omega))) | refine Below.trans ?_ (Below.mono hb4 (by first | omega | (simp; done) | (simp; omega))) | refine Below.trans ?_ (Below.mono hb5 (by first | omega | (simp; done) | (simp; omega))) | refine Below.trans ?_ (Below.mono hb6 (by first | omega | (simp; done) | (simp; omega))) | refine Below.trans ?_ (Below.mono hb7 (by first | omega | (simp; done) | (simp; omega))) | refine Below.trans ?_ (Below.mono hb8 (by first | omega | (simp; done) | (simp; omega))) | refine Below.trans ?_ (Below.mono hb9 (by first | omega | (simp; done) | (simp; omega)))))⟩
  case round =>
    obtain ⟨i, hi, rfl, hownO, hBO⟩ := hrel
    by_cases hlt : i < m
    · go_wp2
      go_loopw [3, 5] (fun v j wr => ∃ k : Nat, k ≤ 64 ∧ j = .int .i64 k ∧ wr.ownsRow w.heap.size 3 1 v (64 * i + k) (bitL (64 * i + k) x) ∧ Below w.heap.size w wr) (fun _ j _ => 64 - (intOf j).toNat)
      case atStart => exact ⟨0, Nat.zero_le _, rfl, hownO, hBO⟩
      case round =>
        obtain ⟨k, hk, rfl, hown, hB⟩ := hrel
        have hk2 : 64 * i + k < 1000000 := by omega
        obtain ⟨hg, hcx⟩ := hb.call hB
        have c1 := hcx i hlt
        have b1 := wd_u i x
        clear hb hownO hBO hcx
        by_cases hlk : k < 64
        · have S := Lib.hid (wd_bit i k x hlk)
          generalize wd i x = wx at *
          go_wp2_with ((at_builtin; refine app_int hB (Nat.le_refl _) hown hk2 rfl rfl rfl _ rfl rfl ?_))
          intro v' w1 hown1 hB1
          replace hown1 := next_row hown1 S.out
          clear hown hB
          go_wp2
          go_roundw
          case rel => exact ⟨k + 1, by omega, by simp, hown1, hB1⟩
          case measure => simp [intOf]; omega
        · obtain rfl : k = 64 := by omega
          clear hk2 c1 b1
          go_wp2
          go_roundw
          case rel => exact ⟨i + 1, by omega, by simp, by rw [show 64 * (i + 1) = 64 * i + 64 by omega]; exact hown, hB⟩
          case measure => simp [intOf]; omega
    · obtain rfl : i = m := by omega
      go_wp2
      go_ret
      exact fin_own hownO hBO (by omega)

theorem or_bit (a b : Int) (ha0 : 0 ≤ a) (ha : a < 9223372036854775808) (hb : 0 ≤ b ∧ b ≤ 1) : bits .or .u64 (a * 2) b = 2 * a + b := by
  obtain ⟨a, rfl⟩ := Int.eq_ofNat_of_zero_le ha0
  obtain ⟨b, rfl⟩ := Int.eq_ofNat_of_zero_le hb.1
  have h := bits_or_u64_nat (2 * a) b (by omega) (by omega)
  have e : (2 * a) ||| b = 2 * a + b := by
    have h2 := Nat.two_pow_add_eq_or_of_lt (i := 1) (show b < 2 ^ 1 by omega) a
    simpa using h2.symm
  rw [e] at h
  rw [show ((a : Int) * 2) = ((2 * a : Nat) : Int) by omega, h]
  omega
def wdL (n : Nat) (x : Int) : List Value := (List.range n).map fun k => .int .u64 (wd k x)
theorem wdL_succ (n : Nat) (x : Int) : wdL (n + 1) x = wdL n x ++ [.int .u64 (wd n x)] := by simp [wdL, List.range_succ]
theorem wdL_get {k n : Nat} (x : Int) (h : k < n) : (wdL n x)[k]? = some (.int .u64 (wd k x)) := by
  simp [wdL, List.getElem?_map, List.getElem?_range h]
def OwnW (w w' : World) (e : Ending) (n : Nat) (y : Int) : Prop :=
  ∃ g c, e = .returned (.slice (some ⟨g, 0, none⟩) n c) ∧ n ≤ c ∧ w.heap.size ≤ g ∧ Wd w' g n y ∧ Below w.heap.size w w'
theorem fin_words {w w' : World} {v : Value} {n : Nat} {y : Int} (h : w'.ownsRow w.heap.size 22 1 v n (wdL n y)) (hB : Below w.heap.size w w') (hn : 0 < n) : OwnW w w' (.returned v) n y := by
  rcases h.2 with ⟨rfl, h0⟩ | ⟨g, cap, cur, rfl, hb, hh, hnc, _⟩
  · omega
  · refine ⟨g, cap, rfl, hnc, hb, ⟨(h.lt g rfl).2, fun j hj => ?_⟩, hB⟩
    have := h.cells (g := g) rfl j _ (wdL_get y hj)
    rwa [show (⟨g, 0, none⟩ : Addr).add j = ⟨g, j, none⟩ by unfold Addr.add; split <;> simp_all] at this
/-- The inner loop's number, k of its bits still to come. -/
def wdT (x : Int) (i k : Nat) : Int := x / 2 ^ (64 * i + k) % 2 ^ (64 - k)
theorem wdT_64 (x : Int) (i : Nat) : wdT x i 64 = 0 := by unfold wdT; simp [Int.emod_one]
theorem wdT_0 (x : Int) (i : Nat) : wdT x i 0 = wd i x := by unfold wdT wd; rfl
theorem wdT_step (x : Int) (i k : Nat) (hk : k < 64) : wdT x i k = 2 * wdT x i (k + 1) + bitI (64 * i + k) x := by
  unfold wdT
  rw [word_step x (64 * i) k hk, show 64 - (k + 1) = 63 - k by omega, ← Nat.add_assoc]
theorem wdT_in (x : Int) (i k : Nat) (hk : 0 < k) (hk2 : k ≤ 64) : 0 ≤ wdT x i k ∧ wdT x i k < 9223372036854775808 := by
  unfold wdT
  have hp := p2pos (64 - k)
  have := p2le (show 64 - k ≤ 63 by omega)
  have h2 := Int.emod_nonneg (x / 2 ^ (64 * i + k)) (show (2 : Int) ^ (64 - k) ≠ 0 by omega)
  have h3 := Int.emod_lt_of_pos (x / 2 ^ (64 * i + k)) hp
  omega

set_option maxHeartbeats 1000000 in
theorem rwords_any (g c : Nat) (x : Int) (m : Nat) (hm0 : 0 < m) (hm : m < 10) (w : World) (hb : Bt w g (64 * m) x) :
    Calls Try.prog 48 #[.slice (some ⟨g, 0, none⟩) (64 * m) c] w fun e w' => OwnW w w' e m x := by
  go_enter Try.func48, Try.ntmps48
  go_wp2
  go_loopw [3, 4] (fun v i wr => ∃ k : Nat, k ≤ m ∧ i = .int .i64 (64 * k : Nat) ∧ wr.ownsRow w.heap.size 22 1 v k (wdL k x) ∧ Below w.heap.size w wr) (fun _ i _ => 64 * m - (intOf i).toNat)
  case atStart => exact ⟨0, Nat.zero_le _, rfl, World.ownsRow_nil _ _ _ _, (by repeat (first | exact Below.refl _ _ | refine Below.drew ?_ | refine Below.alloc ?_ (by first | omega | (simp; done) | (simp; omega)) _ | refine Below.setCell ?_ (by first | omega | (simp; done) | (simp; omega)) _ | exact BC | exact BW | exact hB | refine Below.trans ?_ (Below.mono hb1 (by first | omega | (simp; done) | (simp; omega))) | refine Below.trans ?_ (Below.mono hb2 (by first | omega | (simp; done) | (simp; omega))) | refine Below.trans ?_ (Below.mono hb3 (by first | omega | (simp; done) | (simp; omega))) | refine Below.trans ?_ (Below.mono hb4 (by first | omega | (simp; done) | (simp; omega))) | refine Below.trans ?_ (Below.mono hb5 (by first | omega | (simp; done) | (simp; omega))) | refine Below.trans ?_ (Below.mono hb6 (by first | omega | (simp; done) | (simp; omega))) | refine Below.trans ?_ (Below.mono hb7 (by first | omega | (simp; done) | (simp; omega))) | refine Below.trans ?_ (Below.mono hb8 (by first | omega | (simp; done) | (simp; omega))) | refine Below.trans ?_ (Below.mono hb9 (by first | omega | (simp; done) | (simp; omega)))))⟩
  case round =>
    obtain ⟨i, hi, rfl, hown, hB⟩ := hrel
    by_cases hlt : i < m
    · go_wp2
      go_loopw [5, 6] (fun v j wr' => ∃ k : Nat, k ≤ 64 ∧ j = .int .i64 ((k : Int) - 1) ∧ v = .int .u64 (wdT x i k) ∧ wr' = wr) (fun _ j _ => (intOf j + 1).toNat)
      case atStart => exact ⟨64, Nat.le_refl _, rfl, by rw [wdT_64], rfl⟩
      case round =>
        obtain ⟨k, hk, rfl, rfl, rfl⟩ := hrel
        by_cases hk0 : k = 0
        · subst hk0
          rw [wdT_0]
          have hk2 : i < 1000000 := by omega
          have S := Lib.hid (wdL_succ i x)
          generalize wd i x = wx at *
          go_wp2_with (at_builtin; refine app_u64 hB (Nat.le_refl _) hown hk2 rfl rfl rfl _ rfl rfl ?_)
          intro v' w1 hown1 hB1
          rw [← S.out] at hown1
          clear hown hB
          go_wp2
          go_roundw
          case rel => exact ⟨i + 1, by omega, by simp; omega, hown1, hB1⟩
          case measure => simp [intOf]; omega
        · obtain ⟨j, rfl⟩ : ∃ j, k = j + 1 := ⟨k - 1, by omega⟩
          have ej : ((j + 1 : Nat) : Int) - 1 = j := by omega
          rw [ej]
          have c1 := (hb.call hB).2 (64 * i + j) (by omega)
          have b1 := bitI_01 (64 * i + j) x
          have b2 := wdT_in x i (j + 1) (by omega) hk
          have e1 := or_bit _ _ b2.1 b2.2 b1
          have S := Lib.hid (wdT_step x i j (by omega))
          generalize bitI (64 * i + j) x = bx at *
          generalize wdT x i (j + 1) = wx at *
          clear hb
          go_wp2
          go_roundw
          case rel => exact ⟨j, by omega, by simp, by rw [S.out], trivial⟩
          case measure => simp [intOf] <;> try omega
    · obtain rfl : i = m := by omega
      go_wp2
      go_ret
      exact fin_words hown hB (by omega)
end Go.Proofs.Ytdnccplmpgcleaa
