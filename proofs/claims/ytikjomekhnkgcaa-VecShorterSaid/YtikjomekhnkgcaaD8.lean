import Derived.Test.YtikjomekhnkgcaaD7
/- The plain law of Clip, all in all: what is clipped is no longer than it may be, but for the slack. -/
namespace Go.Proofs.Ytikjomekhnkgcaa
open Go.RowKit

theorem mul_swap4 (a b c d : Int) : (a * b) * (c * d) = (a * c) * (b * d) := by rw [Int.mul_assoc, Int.mul_left_comm b c d, ← Int.mul_assoc]
theorem mul_in {s d A B : Int} (h1 : -A ≤ s) (h2 : s ≤ A) (h3 : -B ≤ d) (h4 : d ≤ B) : s * d ≤ A * B := by
  have a1 : absI s ≤ A := by unfold absI; split <;> omega
  have a2 : absI d ≤ B := by unfold absI; split <;> omega
  have a3 : absI s * absI d ≤ A * B := Int.mul_le_mul a1 a2 (absI_nonneg d) (by have := absI_nonneg s; omega)
  rw [← absI_mul] at a3
  have := absI_cases (s * d)
  omega
theorem sq_sum (s d : Int) : (s + d) * (s + d) = s * s + 2 * (s * d) + d * d := by
  rw [Int.add_mul, Int.mul_add, Int.mul_add, Int.mul_comm d s]; omega
theorem sq_nn (x : Int) : 0 ≤ x * x := by
  rcases Int.le_total 0 x with h | h
  · exact Int.mul_nonneg h h
  · exact Int.mul_nonneg_of_nonpos_of_nonpos h h
/-- One square is no more than another: so are the numbers. -/
theorem sq_le {a b : Int} (hb : 0 ≤ b) (h : a * a ≤ b * b) : a ≤ b := by
  rcases Int.lt_or_le b a with h1 | h1
  · have := Int.mul_le_mul (show b + 1 ≤ a by omega) (show b + 1 ≤ a by omega) (by omega) (by omega)
    rw [sq_sum b 1] at this
    omega
  · exact h1

/-- One part's square. -/
theorem part_sq {K x l r : Int} (hK : 0 ≤ K) (h1 : -4294967296 ≤ K * x - 8589934592 * l) (h2 : K * x - 8589934592 * l ≤ 4294967296) (hx : -r ≤ x) (hx' : x ≤ r) :
    73786976294838206464 * (l * l) ≤ (K * K) * (x * x) + (2 * ((K * r) * 4294967296) + 18446744073709551616) := by
  obtain ⟨d, hd⟩ : ∃ d, 8589934592 * l = K * x + d := ⟨8589934592 * l - K * x, by omega⟩
  have e1 : 73786976294838206464 * (l * l) = (8589934592 * l) * (8589934592 * l) := by rw [mul_swap4]; omega
  rw [e1, hd, sq_sum, mul_swap4 K x K x]
  have b1 : K * x ≤ K * r := Int.mul_le_mul_of_nonneg_left hx' hK
  have b2 : K * (-r) ≤ K * x := Int.mul_le_mul_of_nonneg_left hx hK
  rw [Int.mul_neg] at b2
  have m1 := mul_in (s := K * x) (d := d) (A := K * r) (B := 4294967296) b2 b1 (by omega) (by omega)
  have m2 := mul_in (s := d) (d := d) (A := 4294967296) (B := 4294967296) (by omega) (by omega) (by omega) (by omega)
  omega
/-- All squares. -/
theorem parts_sq {K r : Int} {xs ls : List Int} (hK : 0 ≤ K) (n : Nat) (h : ∀ i, i < n → -4294967296 ≤ K * xs.getD i 0 - 8589934592 * ls.getD i 0 ∧ K * xs.getD i 0 - 8589934592 * ls.getD i 0 ≤ 4294967296)
    (hx : ∀ i, i < n → -r ≤ xs.getD i 0 ∧ xs.getD i 0 ≤ r) :
    73786976294838206464 * dotI ls ls 0 1 n ≤ (K * K) * dotI xs xs 0 1 n + n * (2 * ((K * r) * 4294967296) + 18446744073709551616) := by
  induction n with
  | zero => unfold dotI; simp
  | succ i ih =>
    have a := ih (fun j hj => h j (by omega)) (fun j hj => hx j (by omega))
    have b := part_sq hK (h i (by omega)).1 (h i (by omega)).2 (hx i (by omega)).1 (hx i (by omega)).2
    simp only [dotI]
    rw [show 0 + i * 1 = i by omega, Int.mul_add (K * K), Int.mul_add 73786976294838206464, show ((i + 1 : Nat) : Int) = (i : Int) + 1 by omega, Int.add_mul, Int.one_mul]
    omega
/-- A part is no greater than the whole length. -/
theorem part_le (xs : List Int) {n i : Nat} (h : i < n) : xs.getD i 0 * xs.getD i 0 ≤ dotI xs xs 0 1 n := by
  induction n with
  | zero => omega
  | succ j ih =>
    simp only [dotI]
    rw [show 0 + j * 1 = j by omega]
    have s1 := sq_nn (xs.getD j 0)
    have s2 := dotI_sq xs j
    by_cases e : i = j
    · subst e; omega
    · have := ih (by omega); omega
theorem part_abs {xs : List Int} {n i : Nat} (h : i < n) {r : Int} (hr : isRoot (dotI xs xs 0 1 n) r) : -r ≤ xs.getD i 0 ∧ xs.getD i 0 ≤ r := by
  have a := part_le xs h
  obtain ⟨r0, _, r2⟩ := hr
  constructor
  · rcases Int.lt_or_le (xs.getD i 0) (-r) with h1 | h1
    · have := Int.mul_le_mul (show r + 1 ≤ -xs.getD i 0 by omega) (show r + 1 ≤ -xs.getD i 0 by omega) (by omega) (by omega)
      rw [Int.neg_mul_neg] at this
      omega
    · exact h1
  · rcases Int.lt_or_le r (xs.getD i 0) with h1 | h1
    · have := Int.mul_le_mul (show r + 1 ≤ xs.getD i 0 by omega) (show r + 1 ≤ xs.getD i 0 by omega) (by omega) (by omega)
      omega
    · exact h1
/-- The sum of what the parts are without their signs, and that of their whole steps. -/
def absS (xs : List Int) : Nat → Int
  | 0 => 0
  | n + 1 => absS xs n + max (xs.getD n 0) (-xs.getD n 0)
def slkS (xs : List Int) : Nat → Int
  | 0 => 0
  | n + 1 => slkS xs n + max (xs.getD n 0) (-xs.getD n 0) / 4294967296
theorem absS_nn (xs : List Int) (n : Nat) : 0 ≤ absS xs n := by
  induction n with
  | zero => unfold absS; omega
  | succ i ih => unfold absS; omega
theorem slkS_bd {xs : List Int} (hx : All64 xs) (n : Nat) : 0 ≤ slkS xs n ∧ slkS xs n ≤ n * 2147483648 := by
  induction n with
  | zero => unfold slkS; omega
  | succ i ih => have := hx i; unfold In64 at this; unfold slkS; omega
theorem slk_abs (xs : List Int) (n : Nat) : absS xs n ≤ 4294967296 * slkS xs n + n * 4294967295 := by
  induction n with
  | zero => unfold absS slkS; omega
  | succ i ih => unfold absS slkS; omega
theorem dot_abs (xs : List Int) (n : Nat) : dotI xs xs 0 1 n ≤ absS xs n * absS xs n := by
  induction n with
  | zero => unfold dotI absS; omega
  | succ i ih =>
    unfold dotI absS
    rw [show 0 + i * 1 = i by omega, sq_sum]
    have a := absS_nn xs i
    have m : 0 ≤ max (xs.getD i 0) (-xs.getD i 0) := by omega
    have b := Int.mul_nonneg a m
    have e : max (xs.getD i 0) (-xs.getD i 0) * max (xs.getD i 0) (-xs.getD i 0) = xs.getD i 0 * xs.getD i 0 := by
      rcases Int.le_total 0 (xs.getD i 0) with h | h
      · rw [show max (xs.getD i 0) (-xs.getD i 0) = xs.getD i 0 by omega]
      · rw [show max (xs.getD i 0) (-xs.getD i 0) = -xs.getD i 0 by omega, Int.neg_mul_neg]
    omega
theorem rnd_whole (q r : Int) (hr : 0 < r) : rnd (q * r) r = q := by
  unfold rnd
  rw [Int.mul_emod_left, Int.mul_ediv_cancel _ (by omega)]
  split <;> omega
theorem rnd_zero (r : Int) (hr : 0 < r) : rnd 0 r = 0 := by
  have := rnd_whole 0 r hr
  rwa [Int.zero_mul] at this
/-- The factor. -/
theorem clip_k {most r : Int} (hm : 0 < most) (hr : most < r) :
    0 ≤ rnd (most * 4294967296) r ∧ rnd (most * 4294967296) r ≤ 4294967296 ∧ 2 * (rnd (most * 4294967296) r * r) ≤ 2 * (most * 4294967296) + r := by
  have h0 : 0 < r := by omega
  have n := rnd_nr4 (most * 4294967296) r h0
  have a := rnd_up4 (m := r) h0 (show 0 ≤ most * 4294967296 by omega)
  have b := rnd_up4 (m := r) h0 (show most * 4294967296 ≤ 4294967296 * r by omega)
  rw [rnd_zero r h0] at a
  rw [rnd_whole _ r h0] at b
  exact ⟨a, b, by omega⟩
/-- One part that is clipped. -/
theorem clip_part {k x : Int} (hk : 0 ≤ k) (hk1 : k ≤ 4294967296) : (0 ≤ x → 0 ≤ rnd (k * x) 4294967296 ∧ rnd (k * x) 4294967296 ≤ x) ∧ (x ≤ 0 → rnd (k * x) 4294967296 ≤ 0 ∧ x ≤ rnd (k * x) 4294967296) := by
  refine ⟨clip_pos hk hk1, fun hx => ?_⟩
  have h1 : k * x ≤ 0 := Int.mul_nonpos_of_nonneg_of_nonpos hk hx
  have h2 : x * 4294967296 ≤ k * x := by
    rw [Int.mul_comm k x]
    exact Int.mul_le_mul_of_nonpos_left hx hk1
  have a := rnd_up4 (m := 4294967296) (by omega) h1
  have b := rnd_up4 (m := 4294967296) (by omega) h2
  rw [rnd_whole4] at b
  rw [rnd_zero _ (by omega)] at a
  exact ⟨a, b⟩
/-- What the law asks. -/
def Short (xs vs : List Int) (cut : Bool) (most : Int) (n : Nat) : Prop :=
  All64 vs ∧ (∀ i, i < n → (cut = false → vs.getD i 0 = xs.getD i 0) ∧ (0 < vs.getD i 0 → vs.getD i 0 ≤ xs.getD i 0) ∧ (vs.getD i 0 < 0 → xs.getD i 0 ≤ vs.getD i 0)) ∧ nrmI (dotI vs vs 0 1 n) ≤ most + (n + 2 + slkS xs n)
theorem dotI_le {xs ls : List Int} (n : Nat) (h : ∀ i, i < n → ls.getD i 0 * ls.getD i 0 ≤ xs.getD i 0 * xs.getD i 0) : dotI ls ls 0 1 n ≤ dotI xs xs 0 1 n := by
  induction n with
  | zero => unfold dotI; omega
  | succ i ih =>
    have a := ih fun j hj => h j (by omega)
    have b := h i (by omega)
    simp only [dotI]
    rw [show 0 + i * 1 = i by omega]
    omega
theorem short_len {xs ls : List Int} {n : Nat} {k r most : Int} (hm : 0 < most) (hr : isRoot (dotI xs xs 0 1 n) r) (hmr : most < r) (hk : k = rnd (most * 4294967296) r)
    (hl : ∀ i, i < n → ls.getD i 0 = rnd (k * xs.getD i 0) 4294967296) (m : Int) (hM : isRoot (dotI ls ls 0 1 n) m) (hx : All64 xs) : m ≤ most + (n + 2 + slkS xs n) := by
  obtain ⟨k0, k1, k2⟩ := clip_k hm hmr
  rw [← hk] at k0 k1 k2
  have P := parts_sq (K := 2 * k) (r := r) (xs := xs) (ls := ls) (by omega) n (fun i hi => by
    have := rnd_nr4 (k * xs.getD i 0) 4294967296 (by omega)
    rw [← hl i hi] at this
    rw [Int.mul_assoc]
    omega) (fun i hi => part_abs hi hr)
  have sa := slk_abs xs n
  have sb := slkS_bd hx n
  have da := dot_abs xs n
  have a0 := absS_nn xs n
  obtain ⟨r0, r1, r2⟩ := hr
  obtain ⟨m0, m1, _⟩ := hM
  have ra : r ≤ absS xs n := sq_le a0 (by omega)
  generalize absS xs n = X at *
  generalize dotI xs xs 0 1 n = S at *
  generalize dotI ls ls 0 1 n = L at *
  generalize slkS xs n = sl at *
  obtain ⟨B, hB⟩ : ∃ B, B = most + (n + 2 + sl) := ⟨_, rfl⟩
  rw [← hB]
  obtain ⟨M, hMd⟩ : ∃ M, M = 2 * k * (r + 1) := ⟨_, rfl⟩
  obtain ⟨N, hN⟩ : ∃ N, N = (n : Int) * 4294967296 := ⟨_, rfl⟩
  have n0 : 0 ≤ N := by omega
  have M0 : 0 ≤ M := by rw [hMd]; exact Int.mul_nonneg (by omega) (by omega)
  have M1 : M = 2 * (k * r) + 2 * k := by rw [hMd, Int.mul_add, Int.mul_assoc, Int.mul_one]
  have le : M + N ≤ 8589934592 * B := by omega
  have q1 : 2 * k * (2 * k) * S ≤ M * M := by
    have : M * M = 2 * k * (2 * k) * ((r + 1) * (r + 1)) := by rw [hMd, mul_swap4]
    rw [this]
    exact Int.mul_le_mul_of_nonneg_left (by omega) (sq_nn _)
  have q2 : (n : Int) * (2 * ((2 * k * r) * 4294967296) + 18446744073709551616) ≤ 2 * (M * N) + N * N := by
    have e1 : 2 * k * r ≤ M := by rw [Int.mul_assoc, M1]; omega
    have e2 := Int.mul_le_mul_of_nonneg_right e1 n0
    have e3 : (n : Int) * 18446744073709551616 ≤ N * N := by
      rw [hN, mul_swap4]
      rcases Nat.eq_zero_or_pos n with h | h
      · subst h; simp
      · have := Int.mul_le_mul_of_nonneg_left (show (1 : Int) ≤ n by omega) (show (0 : Int) ≤ n by omega)
        omega
    have e4 : (n : Int) * (2 * ((2 * k * r) * 4294967296)) = 2 * ((2 * k * r) * N) := by
      rw [hN, Int.mul_left_comm, Int.mul_left_comm (n : Int) (2 * k * r)]
    rw [Int.mul_add, e4]
    omega
  have q3 : (M + N) * (M + N) ≤ (8589934592 * B) * (8589934592 * B) := Int.mul_le_mul le le (by omega) (by omega)
  rw [sq_sum, mul_swap4] at q3
  exact sq_le (by omega) (by omega)
theorem short_cut {xs : List Int} {n : Nat} {k most : Int} (hx : All64 xs) (hm : 0 < most) (hS : dotI xs xs 0 1 n < 85070591730234615865843651857942052864) (hmr : most < nrmI (dotI xs xs 0 1 n))
    (hk : k = rnd (most * 4294967296) (nrmI (dotI xs xs 0 1 n))) : Short xs (rowI (mulV k xs) n) true most n ∧ cntI (mulV k xs) n = 0 := by
  have hr : isRoot (dotI xs xs 0 1 n) (nrmI (dotI xs xs 0 1 n)) := by unfold nrmI; rw [if_pos hS]; exact rootI_is (dotI_sq xs n)
  obtain ⟨k0, k1, _⟩ := clip_k hm hmr
  rw [← hk] at k0 k1
  have cp := fun i => clip_part (x := xs.getD i 0) k0 k1
  have v64 : ∀ i, In64 (mulV k xs i) := fun i => by
    have a := cp i; have b := hx i; unfold mulV; unfold In64 at *
    rcases Int.le_total 0 (xs.getD i 0) with h | h
    · have := a.1 h; omega
    · have := a.2 h; omega
  have cl : ∀ i, clampI (mulV k xs i) = mulV k xs i := fun i => by have := v64 i; unfold In64 at this; unfold clampI; rw [if_neg (by omega), if_neg (by omega)]
  have hl : ∀ i, i < n → (rowI (mulV k xs) n).getD i 0 = rnd (k * xs.getD i 0) 4294967296 := fun i hi => by rw [rowI_get _ hi, cl]; rfl
  refine ⟨⟨rowI_all _ _, fun i hi => ?_, ?_⟩, ?_⟩
  · rw [hl i hi]
    have a := cp i
    refine ⟨fun h => by simp at h, fun h => ?_, fun h => ?_⟩
    · rcases Int.le_total 0 (xs.getD i 0) with h' | h'
      · exact (a.1 h').2
      · have := a.2 h'; omega
    · rcases Int.le_total 0 (xs.getD i 0) with h' | h'
      · have := a.1 h'; omega
      · exact (a.2 h').2
  · have hL : dotI (rowI (mulV k xs) n) (rowI (mulV k xs) n) 0 1 n ≤ dotI xs xs 0 1 n := dotI_le n fun i hi => by
      rw [hl i hi]
      have a := cp i
      rcases Int.le_total 0 (xs.getD i 0) with h' | h'
      · have := a.1 h'; exact Int.mul_le_mul this.2 this.2 this.1 h'
      · have := a.2 h'
        have b := Int.mul_le_mul (show -rnd (k * xs.getD i 0) 4294967296 ≤ -xs.getD i 0 by omega) (show -rnd (k * xs.getD i 0) 4294967296 ≤ -xs.getD i 0 by omega) (by omega) (by omega)
        rwa [Int.neg_mul_neg, Int.neg_mul_neg] at b
    have hM : isRoot (dotI (rowI (mulV k xs) n) (rowI (mulV k xs) n) 0 1 n) (nrmI (dotI (rowI (mulV k xs) n) (rowI (mulV k xs) n) 0 1 n)) := by
      have e : nrmI (dotI (rowI (mulV k xs) n) (rowI (mulV k xs) n) 0 1 n) = rootI (dotI (rowI (mulV k xs) n) (rowI (mulV k xs) n) 0 1 n) := by unfold nrmI; rw [if_pos (by omega)]
      rw [e]
      exact rootI_is (dotI_sq _ n)
    exact short_len hm hr hmr hk hl _ hM hx
  · have : ∀ j, cntI (mulV k xs) j = 0 := fun j => by
      induction j with
      | zero => rfl
      | succ i ih =>
        have := v64 i
        unfold In64 at this
        simp only [cntI, ih, overI, decide_eq_false (show ¬ mulV k xs i < -9223372036854775808 by omega), decide_eq_false (show ¬ 9223372036854775807 < mulV k xs i by omega)]
        rfl
    exact this n
theorem short_same {xs : List Int} {n : Nat} {most : Int} (hx : All64 xs) (h : nrmI (dotI xs xs 0 1 n) ≤ most) : Short xs xs false most n := by
  have := slkS_bd hx n
  exact ⟨hx, fun i _ => ⟨fun _ => rfl, fun _ => Int.le_refl _, fun _ => Int.le_refl _⟩, by omega⟩
theorem ov_short {s : Int} (h : ov (nrmO s) = 0) : s < 85070591730234615865843651857942052864 := by
  unfold ov nrmO at h
  rcases Int.lt_or_le s 85070591730234615865843651857942052864 with h' | h'
  · exact h'
  · rw [decide_eq_true h'] at h; simp at h
theorem short_one {xs : List Int} {n i : Nat} (h : i < n) (hS : dotI xs xs 0 1 n < 85070591730234615865843651857942052864) : ¬ xs.getD i 0 = -9223372036854775808 := by
  intro e
  have := part_le xs h
  rw [e] at this
  omega
/-- Clip: short, where nothing was held. -/
theorem vclip_short (A : Option Addr) (n cp : Nat) (xs : List Int) (U : Value) (u : Option Nat) (c most : Int) (w : World) (hm : 0 < most) (hm64 : In64 most) (hxs : All64 xs) (hn : n ≤ 65536)
    (hx : Rd w u A n xs) (hU : Unt w U u c) (hc0 : 0 ≤ c) (hc : c < 900000000) :
    Calls Try.prog 46 #[U, .slice A n cp, .int .i64 most] w fun e w' => ∃ V cut vs m, e = .returned (.tuple #[V, .bool cut, .int .i64 0]) ∧ OwnF w.heap.size w' V vs ∧ w.grownBy w' u ∧ Unt w' U u (c + m) ∧ vs.length = n ∧ 0 ≤ m ∧ (m = 0 → Short xs vs cut most n ∧ dotI xs xs 0 1 n < 85070591730234615865843651857942052864) := by
  by_cases h2 : nrmI (dotI xs xs 0 1 n) ≤ most
  · refine (vclip_same A n cp xs U u c most w hm hxs hn h2 hx hU hc0 hc).mono fun e w' ⟨V, h⟩ => ⟨V, _, xs, _, h.1, h.2.1, h.2.2.1, h.2.2.2, hx.1, (ov_01 _).1, fun h0 => ⟨short_same hxs h2, ov_short h0⟩⟩
  · refine (vclip_cut A n cp xs U u c most w hm hm64 hxs hn (by omega) hx hU hc0 hc).mono fun e w' ⟨V, h⟩ => ⟨V, _, _, _, h.1, h.2.1, h.2.2.1, h.2.2.2, rowI_length _ _, ?_, fun h0 => ?_⟩
    · have := ov_01 (nrmO (dotI xs xs 0 1 n))
      have := ov_01 (divO (most * 4294967296) (nrmI (dotI xs xs 0 1 n)))
      have := (cntI_bound (mulV (divI (most * 4294967296) (nrmI (dotI xs xs 0 1 n)) most) xs) n).1
      omega
    · have a1 := ov_01 (nrmO (dotI xs xs 0 1 n))
      have a2 := ov_01 (divO (most * 4294967296) (nrmI (dotI xs xs 0 1 n)))
      have a3 := (cntI_bound (mulV (divI (most * 4294967296) (nrmI (dotI xs xs 0 1 n)) most) xs) n).1
      have a4 : ov (nrmO (dotI xs xs 0 1 n)) = 0 := by omega
      have hS : dotI xs xs 0 1 n < 85070591730234615865843651857942052864 := by
        unfold ov nrmO at a4
        rcases Int.lt_or_le (dotI xs xs 0 1 n) 85070591730234615865843651857942052864 with h | h
        · exact h
        · rw [decide_eq_true h] at a4; simp at a4
      have hmr : most < nrmI (dotI xs xs 0 1 n) := by omega
      obtain ⟨k0, k1, _⟩ := clip_k hm hmr
      have hk : divI (most * 4294967296) (nrmI (dotI xs xs 0 1 n)) most = rnd (most * 4294967296) (nrmI (dotI xs xs 0 1 n)) := by
        have q : quoI (most * 4294967296) (nrmI (dotI xs xs 0 1 n)) = rnd (most * 4294967296) (nrmI (dotI xs xs 0 1 n)) := by
          unfold quoI
          rw [decide_eq_false (show ¬ most * 4294967296 < 0 by omega), decide_eq_false (show ¬ nrmI (dotI xs xs 0 1 n) < 0 by omega), if_pos rfl]
          rw [show absI (most * 4294967296) = most * 4294967296 by unfold absI; split <;> omega, show absI (nrmI (dotI xs xs 0 1 n)) = nrmI (dotI xs xs 0 1 n) by unfold absI; split <;> omega]
        unfold divI
        rw [if_neg (by omega), q]
        unfold clampI
        rw [if_neg (by omega), if_neg (by omega)]
      rw [hk]
      exact ⟨(short_cut hxs hm hS hmr rfl).1, hS⟩
end Go.Proofs.Ytikjomekhnkgcaa
