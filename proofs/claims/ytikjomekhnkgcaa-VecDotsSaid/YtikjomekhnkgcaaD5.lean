import Derived.Test.YtikjomekhnkgcaaD4
/- Lengths: the code's; the chapter's examples. -/
namespace Go.Proofs.Ytikjomekhnkgcaa
open Go.RowKit
attribute [local go_sem ↓] Go.wp_at_zero Go.wp_at_succ

theorem root_is (n : Nat) : ∃ r, isRoot (n : Int) r := by
  induction n with
  | zero => exact ⟨0, by unfold isRoot; omega⟩
  | succ n ih =>
    obtain ⟨r, h0, h1, h2⟩ := ih
    by_cases h : (r + 1) * (r + 1) ≤ (n : Int) + 1
    · refine ⟨r + 1, by omega, by push_cast; exact h, ?_⟩
      have : (r + 1 + 1) * (r + 1 + 1) = (r + 1) * (r + 1) + 2 * r + 3 := by rw [Int.add_mul, Int.mul_add (r + 1) (r + 1) 1]; omega
      push_cast; omega
    · exact ⟨r, h0, by push_cast; omega, by push_cast; omega⟩
theorem root_is' (x : Int) (h : 0 ≤ x) : ∃ r, isRoot x r := by
  obtain ⟨r, hr⟩ := root_is x.toNat
  rw [Int.toNat_of_nonneg h] at hr
  exact ⟨r, hr⟩
/-- The root of a number from 0 on; held. -/
noncomputable def rootI (s : Int) : Int := if h : 0 ≤ s then Classical.choose (root_is' s h) else 0
theorem rootI_is {s : Int} (h : 0 ≤ s) : isRoot s (rootI s) := by
  unfold rootI
  rw [dif_pos h]
  exact Classical.choose_spec (root_is' s h)
theorem root_one {s a b : Int} (ha : isRoot s a) (hb : isRoot s b) : a = b := by
  obtain ⟨a0, a1, a2⟩ := ha
  obtain ⟨b0, b1, b2⟩ := hb
  have key : ∀ x y : Int, 0 ≤ x → 0 ≤ y → x * x < (y + 1) * (y + 1) → x ≤ y := by
    intro x y hx hy h
    rcases Int.lt_or_le y x with h1 | h1
    · have := Int.mul_le_mul (show y + 1 ≤ x by omega) (show y + 1 ≤ x by omega) (by omega) hx
      omega
    · exact h1
  have := key a b a0 b0 (by omega)
  have := key b a b0 a0 (by omega)
  omega
noncomputable def nrmI (s : Int) : Int := if s < 85070591730234615865843651857942052864 then rootI s else 9223372036854775807
def nrmO (s : Int) : Bool := decide (85070591730234615865843651857942052864 ≤ s)
theorem rootI_in {s : Int} (h : 0 ≤ s) (h1 : s < 85070591730234615865843651857942052864) : 0 ≤ rootI s ∧ rootI s < 9223372036854775808 := by
  obtain ⟨a0, a1, _⟩ := rootI_is h
  refine ⟨a0, ?_⟩
  rcases Int.lt_or_le (rootI s) 9223372036854775808 with h2 | h2
  · exact h2
  · have := Int.mul_le_mul h2 h2 (by omega) a0
    omega
theorem nrmI_in {s : Int} (h : 0 ≤ s) : 0 ≤ nrmI s ∧ nrmI s < 9223372036854775808 := by
  unfold nrmI
  split
  · rename_i h1; exact rootI_in h h1
  · omega
theorem nroot_any (s : Int) (hs : In192 s) (h0 : 0 ≤ s) (w : World) :
    Calls Try.prog 85 #[.agg #[.int .i64 (tp s), .int .u64 (q1 s), .int .u64 (q0 s)]] w fun e w' => e = .returned (.tuple #[.int .i64 (nrmI s), .bool (nrmO s)]) ∧ Below w.heap.size w w' := by
  unfold nrmI nrmO
  by_cases h : s < 85070591730234615865843651857942052864
  · rw [if_pos h, decide_eq_false (by omega)]
    exact root_any s hs h0 h _ (rootI_is h0) w
  · rw [if_neg h, decide_eq_true (by omega)]
    have := root_out s hs (.inr (by omega)) w
    rwa [if_neg (by omega)] at this
theorem dotI_sq (xs : List Int) (n : Nat) : 0 ≤ dotI xs xs 0 1 n := by
  induction n with
  | zero => exact Int.le_refl _
  | succ i ih =>
    unfold dotI
    rw [show 0 + i * 1 = i by omega]
    have : 0 ≤ xs.getD i 0 * xs.getD i 0 := by
      rcases Int.le_total 0 (xs.getD i 0) with h | h
      · exact Int.mul_nonneg h h
      · exact Int.mul_nonneg_of_nonpos_of_nonpos h h
    omega
theorem vnorm_any (U : Value) (u : Option Nat) (c : Int) (A : Option Addr) (n cp : Nat) (xs : List Int) (w : World) (hn : n ≤ 65536) (hA : Rd w none A n xs) (hx : All64 xs) (hU : Unt w U u c) (hc0 : 0 ≤ c) (hc : c < 1000000000) :
    Calls Try.prog 47 #[U, .slice A n cp] w (GotN w U u c (.tuple #[.int .i64 (nrmI (dotI xs xs 0 1 n)), .int .i64 0]) (ov (nrmO (dotI xs xs 0 1 n)))) := by
  have hbd := dotI_bd hx hx 0 1 n
  have hi : In192 (dotI xs xs 0 1 n) := by unfold In192; omega
  have DO := Lib.hid (fun W h1 h2 => dot_any A A n cp n cp 0 1 xs xs W hn hn h1 h2 hx hx (fun k hk => by omega) (by omega))
  have RO := Lib.hid (fun W => nroot_any (dotI xs xs 0 1 n) hi (dotI_sq xs n) W)
  clear hbd hi
  simp only [Int.natCast_zero, Int.natCast_one] at DO
  generalize dotI xs xs 0 1 n = s at *
  generalize nrmI s = r at *
  generalize nrmO s = o at *
  go_enter Try.func47, Try.ntmps47
  go_wp2_with (first
    | (go_at_call 48; refine (fits1_yes A n cp _ _ (by simp) hn).mono ?_; rintro e w1 ⟨rfl, rfl⟩)
    | (go_at_call 50; refine (DO.out _ (hA.call (by repeat (first | (with_reducible exact Below.refl _ _) | (with_reducible assumption) | (with_reducible refine Below.drew ?_) | (with_reducible refine Below.alloc ?_ ?_ _) | (with_reducible refine Below.setCell ?_ ?_ _) | (with_reducible refine Below.trans ?_ (Below.mono hb ?_)) | (with_reducible refine Below.trans ?_ (Below.mono hb1 ?_)) | (with_reducible refine Below.trans ?_ (Below.mono hb2 ?_)) | (with_reducible refine Below.trans ?_ (Below.mono hb3 ?_)) | (with_reducible refine Below.trans ?_ (Below.mono hb4 ?_)) | (with_reducible refine Below.trans ?_ (Below.mono hb5 ?_)) | (with_reducible refine Below.trans ?_ (Below.mono hb6 ?_)) | (with_reducible refine Below.trans ?_ (Below.mono hb7 ?_)) | (with_reducible refine Below.trans ?_ (Below.mono hb8 ?_)) | (with_reducible refine Below.trans ?_ (Below.mono hb9 ?_)) | (focus (first | omega | (simp; done) | (simp; omega))) | exact hB))) (hA.call (by repeat (first | (with_reducible exact Below.refl _ _) | (with_reducible assumption) | (with_reducible refine Below.drew ?_) | (with_reducible refine Below.alloc ?_ ?_ _) | (with_reducible refine Below.setCell ?_ ?_ _) | (with_reducible refine Below.trans ?_ (Below.mono hb ?_)) | (with_reducible refine Below.trans ?_ (Below.mono hb1 ?_)) | (with_reducible refine Below.trans ?_ (Below.mono hb2 ?_)) | (with_reducible refine Below.trans ?_ (Below.mono hb3 ?_)) | (with_reducible refine Below.trans ?_ (Below.mono hb4 ?_)) | (with_reducible refine Below.trans ?_ (Below.mono hb5 ?_)) | (with_reducible refine Below.trans ?_ (Below.mono hb6 ?_)) | (with_reducible refine Below.trans ?_ (Below.mono hb7 ?_)) | (with_reducible refine Below.trans ?_ (Below.mono hb8 ?_)) | (with_reducible refine Below.trans ?_ (Below.mono hb9 ?_)) | (focus (first | omega | (simp; done) | (simp; omega))) | exact hB)))).mono ?_; rintro e w2 ⟨rfl, hb2⟩; obtain ⟨hc2, hf2, hz2⟩ := bcell hb2; (try simp at hz2); (try have : w.heap.size < w2.heap.size := by omega); (try have : w.heap.size + 1 < w2.heap.size := by omega); (try have : w.heap.size + 1 + 1 < w2.heap.size := by omega); (try have : w.heap.size + 1 + 1 + 1 < w2.heap.size := by omega); (try have : w1.heap.size < w2.heap.size := by omega); (try have : w1.heap.size + 1 < w2.heap.size := by omega); (try have : w1.heap.size + 1 + 1 < w2.heap.size := by omega); (try have : w1.heap.size + 1 + 1 + 1 < w2.heap.size := by omega); (try have : g < w2.heap.size := by omega); (try have : ga < w2.heap.size := by omega); (try have : gb < w2.heap.size := by omega); (try have : gc < w2.heap.size := by omega); have hB : Below w.heap.size w w2 := (by repeat (first | (with_reducible exact Below.refl _ _) | (with_reducible assumption) | (with_reducible refine Below.drew ?_) | (with_reducible refine Below.alloc ?_ ?_ _) | (with_reducible refine Below.setCell ?_ ?_ _) | (with_reducible refine Below.trans ?_ (Below.mono hb ?_)) | (with_reducible refine Below.trans ?_ (Below.mono hb1 ?_)) | (with_reducible refine Below.trans ?_ (Below.mono hb2 ?_)) | (with_reducible refine Below.trans ?_ (Below.mono hb3 ?_)) | (with_reducible refine Below.trans ?_ (Below.mono hb4 ?_)) | (with_reducible refine Below.trans ?_ (Below.mono hb5 ?_)) | (with_reducible refine Below.trans ?_ (Below.mono hb6 ?_)) | (with_reducible refine Below.trans ?_ (Below.mono hb7 ?_)) | (with_reducible refine Below.trans ?_ (Below.mono hb8 ?_)) | (with_reducible refine Below.trans ?_ (Below.mono hb9 ?_)) | (focus (first | omega | (simp; done) | (simp; omega))) | exact hB)))
    | (go_at_call 85; refine (RO.out _).mono ?_; rintro e w3 ⟨rfl, hb3⟩; obtain ⟨hc3, hf3, hz3⟩ := bcell hb3; (try simp at hz3); (try have : w.heap.size < w3.heap.size := by omega); (try have : w.heap.size + 1 < w3.heap.size := by omega); (try have : w.heap.size + 1 + 1 < w3.heap.size := by omega); (try have : w.heap.size + 1 + 1 + 1 < w3.heap.size := by omega); (try have : w1.heap.size < w3.heap.size := by omega); (try have : w1.heap.size + 1 < w3.heap.size := by omega); (try have : w1.heap.size + 1 + 1 < w3.heap.size := by omega); (try have : w1.heap.size + 1 + 1 + 1 < w3.heap.size := by omega); (try have : w2.heap.size < w3.heap.size := by omega); (try have : w2.heap.size + 1 < w3.heap.size := by omega); (try have : w2.heap.size + 1 + 1 < w3.heap.size := by omega); (try have : w2.heap.size + 1 + 1 + 1 < w3.heap.size := by omega); (try have : g < w3.heap.size := by omega); (try have : ga < w3.heap.size := by omega); (try have : gb < w3.heap.size := by omega); (try have : gc < w3.heap.size := by omega); have hB : Below w.heap.size w w3 := (by repeat (first | (with_reducible exact Below.refl _ _) | (with_reducible assumption) | (with_reducible refine Below.drew ?_) | (with_reducible refine Below.alloc ?_ ?_ _) | (with_reducible refine Below.setCell ?_ ?_ _) | (with_reducible refine Below.trans ?_ (Below.mono hb ?_)) | (with_reducible refine Below.trans ?_ (Below.mono hb1 ?_)) | (with_reducible refine Below.trans ?_ (Below.mono hb2 ?_)) | (with_reducible refine Below.trans ?_ (Below.mono hb3 ?_)) | (with_reducible refine Below.trans ?_ (Below.mono hb4 ?_)) | (with_reducible refine Below.trans ?_ (Below.mono hb5 ?_)) | (with_reducible refine Below.trans ?_ (Below.mono hb6 ?_)) | (with_reducible refine Below.trans ?_ (Below.mono hb7 ?_)) | (with_reducible refine Below.trans ?_ (Below.mono hb8 ?_)) | (with_reducible refine Below.trans ?_ (Below.mono hb9 ?_)) | (focus (first | omega | (simp; done) | (simp; omega))) | exact hB)))
    | (go_at_call 86; refine (utake_any U u c _ _ _ (hU.call (by repeat (first | (with_reducible exact Below.refl _ _) | (with_reducible assumption) | (with_reducible refine Below.drew ?_) | (with_reducible refine Below.alloc ?_ ?_ _) | (with_reducible refine Below.setCell ?_ ?_ _) | (with_reducible refine Below.trans ?_ (Below.mono hb ?_)) | (with_reducible refine Below.trans ?_ (Below.mono hb1 ?_)) | (with_reducible refine Below.trans ?_ (Below.mono hb2 ?_)) | (with_reducible refine Below.trans ?_ (Below.mono hb3 ?_)) | (with_reducible refine Below.trans ?_ (Below.mono hb4 ?_)) | (with_reducible refine Below.trans ?_ (Below.mono hb5 ?_)) | (with_reducible refine Below.trans ?_ (Below.mono hb6 ?_)) | (with_reducible refine Below.trans ?_ (Below.mono hb7 ?_)) | (with_reducible refine Below.trans ?_ (Below.mono hb8 ?_)) | (with_reducible refine Below.trans ?_ (Below.mono hb9 ?_)) | (focus (first | omega | (simp; done) | (simp; omega))) | exact hB))) hc0 hc).mono ?_; rintro e w4 ⟨rfl, hg, hV⟩))
  go_ret2
  exact ⟨rfl, gr_trans (gr_below hB u) hg, hV⟩

/-! ### the chapter's examples -/
theorem rd_two {w : World} {g : Nat} {T : TypeId} {a b : Int} (h : w.heap[g]? = some (.cells #[.int .i64 a, .int .i64 b] T (0, 0))) : Rd w none (some ⟨g, 0, none⟩) 2 [a, b] :=
  ⟨rfl, fun _ => ⟨g, 0, rfl, lt_of_block h, by simp, fun j hj => by
    match j, hj with
    | 0, _ => simp [World.cell?, h]
    | 1, _ => simp [World.cell?, h]⟩⟩
theorem all_two {a b : Int} (ha : In64 a) (hb : In64 b) : All64 [a, b] := by
  intro j
  match j with
  | 0 => exact ha
  | 1 => exact hb
  | j + 2 => show In64 0; unfold In64; omega
theorem root25 : nrmI 461168601842738790400 = 21474836480 := by
  unfold nrmI
  rw [if_pos (by omega)]
  exact root_one (rootI_is (by omega)) (by unfold isRoot; omega)
set_option maxHeartbeats 1000000 in
theorem awake4_any (w : World) : Calls Try.prog 13 #[] w fun e w' => e = .returned (.bool true) ∧ Below w.heap.size w w' := by
  have DO := Lib.hid (fun A B W h1 h2 => vdot_any (.pointer none) none 0 A B 2 2 2 [1, 1] [2147483648, 2147483648] W (by omega) h1 h2 (all_two (by unfold In64; omega) (by unfold In64; omega)) (all_two (by unfold In64; omega) (by unfold In64; omega)) (Unt.nil _ _) (by omega) (by omega))
  rw [show clampI (rnd (dotI [1, 1] [2147483648, 2147483648] 0 1 2) 4294967296) = 1 by decide] at DO
  have NO := Lib.hid (fun A W h1 => vnorm_any (.pointer none) none 0 A 2 2 [12884901888, 17179869184] W (by omega) h1 (all_two (by unfold In64; omega) (by unfold In64; omega)) (Unt.nil _ _) (by omega) (by omega))
  rw [show dotI [12884901888, 17179869184] [12884901888, 17179869184] 0 1 2 = 461168601842738790400 by decide, root25] at NO
  go_enter Try.func13, Try.ntmps13
  go_wp2_with (first
    | (go_at_call 18; refine (DO.out _ _ _ (rd_two (hp_alloc (heap_alloc_new _ _) _)) (rd_two (newest_at _ _ (by simp)))).mono ?_; rintro e w1 ⟨rfl, hg1, hV1⟩; have hb1 := gr_none hg1; have hz1 := hb1.size; (try simp at hz1); have hB : Below w.heap.size w w1 := (by repeat (first | (with_reducible exact Below.refl _ _) | (with_reducible assumption) | (with_reducible refine Below.drew ?_) | (with_reducible refine Below.alloc ?_ ?_ _) | (with_reducible refine Below.setCell ?_ ?_ _) | (with_reducible refine Below.trans ?_ (Below.mono hb ?_)) | (with_reducible refine Below.trans ?_ (Below.mono hb1 ?_)) | (with_reducible refine Below.trans ?_ (Below.mono hb2 ?_)) | (with_reducible refine Below.trans ?_ (Below.mono hb3 ?_)) | (with_reducible refine Below.trans ?_ (Below.mono hb4 ?_)) | (with_reducible refine Below.trans ?_ (Below.mono hb5 ?_)) | (with_reducible refine Below.trans ?_ (Below.mono hb6 ?_)) | (with_reducible refine Below.trans ?_ (Below.mono hb7 ?_)) | (with_reducible refine Below.trans ?_ (Below.mono hb8 ?_)) | (with_reducible refine Below.trans ?_ (Below.mono hb9 ?_)) | (focus (first | omega | (simp; done) | (simp; omega))) | exact hB)); clear hg1 hV1)
    | (go_at_call 47; refine (NO.out _ _ (rd_two (heap_alloc_new _ _))).mono ?_; rintro e w2 ⟨rfl, hg2, hV2⟩; have hb2 := gr_none hg2; have hz2 := hb2.size; (try simp at hz2); have hB : Below w.heap.size w w2 := (by repeat (first | (with_reducible exact Below.refl _ _) | (with_reducible assumption) | (with_reducible refine Below.drew ?_) | (with_reducible refine Below.alloc ?_ ?_ _) | (with_reducible refine Below.setCell ?_ ?_ _) | (with_reducible refine Below.trans ?_ (Below.mono hb ?_)) | (with_reducible refine Below.trans ?_ (Below.mono hb1 ?_)) | (with_reducible refine Below.trans ?_ (Below.mono hb2 ?_)) | (with_reducible refine Below.trans ?_ (Below.mono hb3 ?_)) | (with_reducible refine Below.trans ?_ (Below.mono hb4 ?_)) | (with_reducible refine Below.trans ?_ (Below.mono hb5 ?_)) | (with_reducible refine Below.trans ?_ (Below.mono hb6 ?_)) | (with_reducible refine Below.trans ?_ (Below.mono hb7 ?_)) | (with_reducible refine Below.trans ?_ (Below.mono hb8 ?_)) | (with_reducible refine Below.trans ?_ (Below.mono hb9 ?_)) | (focus (first | omega | (simp; done) | (simp; omega))) | exact hB)); clear hg2 hV2))
  go_ret
  exact ⟨rfl, hB⟩
set_option maxHeartbeats 1000000 in
theorem few4_yes (b off m cp : Nat) (As : Nat → Option Addr) (ns cs : Nat → Nat) (w : World) (hm : m < 1000000) (hS : Sls w b off m As ns cs) (h : ∀ j, j < m → ns j ≤ 200) :
    Calls Try.prog 14 #[.slice (some ⟨b, off, none⟩) m cp] w fun e w' => e = .returned (.bool true) ∧ w = w' := by
  have hmax : m ≤ 9223372036854775807 := by omega
  have HS := Lib.hid hS
  have HH := Lib.hid h
  clear hS h
  go_enter Try.func14, Try.ntmps14
  go_wp2
  go_loop [7] (fun i => ∃ k : Nat, k ≤ m ∧ i = .int .i64 k) (fun i => m - (intOf i).toNat)
  case atStart => exact ⟨0, Nat.zero_le _, rfl⟩
  case round =>
    obtain ⟨k, hk, rfl⟩ := hrel
    by_cases hlt : k < m
    · have hc := HS.out k hlt
      have hle := HH.out k hlt
      go_wp2
      go_round
      case rel => exact ⟨k + 1, by omega, by simp⟩
      case measure => simp [intOf]; omega
    · go_wp2
      go_ret
      exact ⟨rfl, rfl⟩
set_option maxHeartbeats 1000000 in
theorem few4_no (b off m cp j0 : Nat) (As : Nat → Option Addr) (ns cs : Nat → Nat) (w : World) (hm : m < 1000000) (hS : Sls w b off m As ns cs) (h : ∀ j, j < j0 → ns j ≤ 200) (h0 : j0 < m) (h1 : 200 < ns j0) :
    Calls Try.prog 14 #[.slice (some ⟨b, off, none⟩) m cp] w fun e w' => e = .returned (.bool false) ∧ w = w' := by
  have hmax : m ≤ 9223372036854775807 := by omega
  have HS := Lib.hid hS
  have HH := Lib.hid h
  clear hS h
  go_enter Try.func14, Try.ntmps14
  go_wp2
  go_loop [7] (fun i => ∃ k : Nat, k ≤ j0 ∧ i = .int .i64 k) (fun i => m - (intOf i).toNat)
  case atStart => exact ⟨0, Nat.zero_le _, rfl⟩
  case round =>
    obtain ⟨k, hk, rfl⟩ := hrel
    have hlm : k < m := by omega
    have hc := HS.out k hlm
    by_cases hlt : k < j0
    · have hle := HH.out k hlt
      go_wp2
      go_round
      case rel => exact ⟨k + 1, by omega, by simp⟩
      case measure => simp [intOf]; omega
    · obtain rfl : k = j0 := by omega
      go_wp2
      go_ret
      exact ⟨rfl, rfl⟩
/-- Of two vectors. -/
theorem few4_two (A B : Option Addr) (n m cp cq g : Nat) (w : World) (h0 : w.cell? ⟨g, 0, none⟩ = some (.slice A n cp)) (h1 : w.cell? ⟨g, 1, none⟩ = some (.slice B m cq)) :
    Calls Try.prog 14 #[.slice (some ⟨g, 0, none⟩) 2 2] w fun e w' => e = .returned (.bool (decide (n ≤ 200 ∧ m ≤ 200))) ∧ w = w' := by
  have hS : Sls w g 0 2 (fun j => if j = 0 then A else B) (fun j => if j = 0 then n else m) (fun j => if j = 0 then cp else cq) := by
    intro j hj
    match j, hj with
    | 0, _ => exact h0
    | 1, _ => exact h1
  by_cases hn : n ≤ 200
  · by_cases hm : m ≤ 200
    · rw [decide_eq_true ⟨hn, hm⟩]
      exact few4_yes g 0 2 2 _ _ _ w (by omega) hS (by intro j _; split <;> omega)
    · rw [decide_eq_false (fun h => hm h.2)]
      exact few4_no g 0 2 2 1 _ _ _ w (by omega) hS (by intro j hj; obtain rfl : j = 0 := (by omega); exact hn) (by omega) (by simp; omega)
  · rw [decide_eq_false (fun h => hn h.1)]
    exact few4_no g 0 2 2 0 _ _ _ w (by omega) hS (by intro j hj; omega) (by omega) (by simp; omega)
theorem few4_one (A : Option Addr) (n cp g : Nat) (w : World) (h0 : w.cell? ⟨g, 0, none⟩ = some (.slice A n cp)) :
    Calls Try.prog 14 #[.slice (some ⟨g, 0, none⟩) 1 1] w fun e w' => e = .returned (.bool (decide (n ≤ 200))) ∧ w = w' := by
  have hS : Sls w g 0 1 (fun _ => A) (fun _ => n) (fun _ => cp) := by
    intro j hj
    have e : j = 0 := by omega
    subst e
    exact h0
  by_cases hn : n ≤ 200
  · rw [decide_eq_true hn]
    exact few4_yes g 0 1 1 _ _ _ w (by omega) hS (by intro j _; exact hn)
  · rw [decide_eq_false hn]
    exact few4_no g 0 1 1 0 _ _ _ w (by omega) hS (by intro j hj; omega) (by omega) (by omega)
end Go.Proofs.Ytikjomekhnkgcaa
