import Derived.Test.YtikjomekhnkgcaaH1
/- The reference's numbers: what a sum comes to; Sub; differences of rows. -/
namespace Go.Proofs.Ytikjomekhnkgcaa
open Go.RowKit
attribute [local go_sem ↓] Go.wp_at_zero Go.wp_at_succ

theorem upB_one (x : Int) : upB 1 x = x * 4294967296 := rfl
theorem upB_zero (x : Int) : upB 0 x = x := rfl
theorem smul0_any (a b : Int) (ha : In64 a) (hb0 : In64 b) (w : World) :
    Calls Try.prog 74 #[.agg #[.int .u64 0, .int .u64 0, .int .u64 0, .int .u64 0, .int .u64 0, .int .u64 0, .int .u64 0, .int .u64 0, .int .u64 0, .int .u64 0, .int .u64 0, .int .u64 0], .int .i64 a, .int .i64 b] w fun e w' => e = .returned (.agg #[.int .u64 (dg 0 (posP (a * b))), .int .u64 (dg 1 (posP (a * b))), .int .u64 (dg 2 (posP (a * b))), .int .u64 (dg 3 (posP (a * b))), .int .u64 (dg 4 (posP (a * b))), .int .u64 (dg 5 (posP (a * b))), .int .u64 (dg 0 (negP (a * b))), .int .u64 (dg 1 (negP (a * b))), .int .u64 (dg 2 (negP (a * b))), .int .u64 (dg 3 (negP (a * b))), .int .u64 (dg 4 (negP (a * b))), .int .u64 (dg 5 (negP (a * b)))]) ∧ Below w.heap.size w w' := by
  have h := smul_any 0 0 a b ha hb0 w
  simp only [dg_zero, Int.zero_add] at h
  exact h
theorem sadd0_any (a pl : Int) (ha : In64 a) (hp0 : 0 ≤ pl) (hp2 : pl ≤ 2) (w : World) :
    Calls Try.prog 75 #[.agg #[.int .u64 0, .int .u64 0, .int .u64 0, .int .u64 0, .int .u64 0, .int .u64 0, .int .u64 0, .int .u64 0, .int .u64 0, .int .u64 0, .int .u64 0, .int .u64 0], .int .i64 a, .int .i64 pl] w fun e w' => e = .returned (.agg #[.int .u64 (dg 0 (upB pl (posP a))), .int .u64 (dg 1 (upB pl (posP a))), .int .u64 (dg 2 (upB pl (posP a))), .int .u64 (dg 3 (upB pl (posP a))), .int .u64 (dg 4 (upB pl (posP a))), .int .u64 (dg 5 (upB pl (posP a))), .int .u64 (dg 0 (upB pl (negP a))), .int .u64 (dg 1 (upB pl (negP a))), .int .u64 (dg 2 (upB pl (negP a))), .int .u64 (dg 3 (upB pl (negP a))), .int .u64 (dg 4 (upB pl (negP a))), .int .u64 (dg 5 (upB pl (negP a)))]) ∧ Below w.heap.size w w' := by
  have h := sadd_any 0 0 a pl ha hp0 hp2 w
  simp only [dg_zero, Int.zero_add] at h
  exact h
theorem pos_big {x : Int} (h : -100000000000000000000000000000000000000000000000000 ≤ x) (h1 : x ≤ 100000000000000000000000000000000000000000000000000) : BIG (posP x) ∧ BIG (negP x) := by
  unfold BIG posP negP; split <;> omega
theorem mul64_bd {a b : Int} (ha : In64 a) (hb : In64 b) : -85070591730234615865843651857942052864 ≤ a * b ∧ a * b ≤ 85070591730234615865843651857942052864 := by
  unfold In64 at ha hb
  have a1 : absI a ≤ 9223372036854775808 := by unfold absI; split <;> omega
  have a2 : absI b ≤ 9223372036854775808 := by unfold absI; split <;> omega
  have a3 : absI a * absI b ≤ 9223372036854775808 * 9223372036854775808 := Int.mul_le_mul a1 a2 (absI_nonneg b) (by omega)
  rw [← absI_mul] at a3
  have := absI_cases (a * b)
  omega
/-- A sum of what is above 0 and what is below, rounded by 2^32. -/
theorem r32_any (p n x : Int) (hp : BIG p) (hn : BIG n) (hx : p - n = x) (w : World) :
    Calls Try.prog 76 #[.agg #[.int .u64 (dg 0 (p)), .int .u64 (dg 1 (p)), .int .u64 (dg 2 (p)), .int .u64 (dg 3 (p)), .int .u64 (dg 4 (p)), .int .u64 (dg 5 (p)), .int .u64 (dg 0 (n)), .int .u64 (dg 1 (n)), .int .u64 (dg 2 (n)), .int .u64 (dg 3 (n)), .int .u64 (dg 4 (n)), .int .u64 (dg 5 (n))], .int .i64 32] w fun e w' => e = .returned (.tuple #[.int .i64 (clampI (rnd x 4294967296)), .bool (overI (rnd x 4294967296))]) ∧ Below w.heap.size w w' := by
  have h := round02_any p n 32 hp hn (by omega) (by omega) w
  rw [hx] at h
  exact h
theorem rnd_by_one (x : Int) : rnd x 1 = x := by unfold rnd; rw [if_neg (by omega)]; simp
theorem r0_any (p n x : Int) (hp : BIG p) (hn : BIG n) (hx : p - n = x) (w : World) :
    Calls Try.prog 76 #[.agg #[.int .u64 (dg 0 (p)), .int .u64 (dg 1 (p)), .int .u64 (dg 2 (p)), .int .u64 (dg 3 (p)), .int .u64 (dg 4 (p)), .int .u64 (dg 5 (p)), .int .u64 (dg 0 (n)), .int .u64 (dg 1 (n)), .int .u64 (dg 2 (n)), .int .u64 (dg 3 (n)), .int .u64 (dg 4 (n)), .int .u64 (dg 5 (n))], .int .i64 0] w fun e w' => e = .returned (.tuple #[.int .i64 (clampI x), .bool (overI x)]) ∧ Below w.heap.size w w' := by
  have h := round02_any p n 0 hp hn (by omega) (by omega) w
  rw [hx, show (2 : Int) ^ (0 : Int).toNat = 1 from rfl, rnd_by_one] at h
  exact h
theorem pn64 {x : Int} (h : In64 x) : 0 ≤ posP x ∧ posP x ≤ 9223372036854775808 ∧ 0 ≤ negP x ∧ negP x ≤ 9223372036854775808 ∧ posP x - negP x = x := by
  unfold In64 at h; unfold posP negP; split <;> omega
set_option maxHeartbeats 2000000 in
theorem rsub_any (a b : Int) (ha : In64 a) (hb0 : In64 b) (w : World) :
    Calls Try.prog 73 #[.int .i64 a, .int .i64 b] w fun e w' => e = .returned (.tuple #[.int .i64 (clampI (a - b)), .bool (overI (a - b))]) ∧ Below w.heap.size w w' := by
  have pa := pn64 ha
  have pb := pn64 hb0
  have A0 := Lib.hid (fun W => sadd0_any b 0 hb0 (by omega) (by omega) W)
  have A1 := Lib.hid (fun W => sadd_any (negP b) (posP b) a 0 ha (by omega) (by omega) W)
  simp only [upB_zero] at A0 A1
  have R := Lib.hid (fun W => r0_any (negP b + posP a) (posP b + negP a) (a - b) (by unfold BIG; omega) (by unfold BIG; omega) (by omega) W)
  clear pa pb
  generalize posP a = pa at *
  generalize negP a = na at *
  generalize posP b = pb at *
  generalize negP b = nb at *
  have tok1 : True := trivial
  go_enter Try.func73, Try.ntmps73
  go_wp2_with (first
    | (go_at_call 75; have _t := tok1; refine (A0.out _).mono ?_; rintro e w1 ⟨rfl, hb1⟩; obtain ⟨hc1, hf1, hz1⟩ := bcell hb1; (try simp at hz1); (try have : w.heap.size < w1.heap.size := by omega); (try have : w.heap.size + 1 < w1.heap.size := by omega); (try have : w.heap.size + 1 + 1 < w1.heap.size := by omega); (try have : w.heap.size + 1 + 1 + 1 < w1.heap.size := by omega); (try have : g < w1.heap.size := by omega); (try have : ga < w1.heap.size := by omega); (try have : gb < w1.heap.size := by omega); (try have : gc < w1.heap.size := by omega); have hB : Below w.heap.size w w1 := (by repeat (first | (with_reducible exact Below.refl _ _) | (with_reducible assumption) | (with_reducible refine Below.drew ?_) | (with_reducible refine Below.alloc ?_ ?_ _) | (with_reducible refine Below.setCell ?_ ?_ _) | (with_reducible refine Below.trans ?_ (Below.mono hb ?_)) | (with_reducible refine Below.trans ?_ (Below.mono hb1 ?_)) | (with_reducible refine Below.trans ?_ (Below.mono hb2 ?_)) | (with_reducible refine Below.trans ?_ (Below.mono hb3 ?_)) | (with_reducible refine Below.trans ?_ (Below.mono hb4 ?_)) | (with_reducible refine Below.trans ?_ (Below.mono hb5 ?_)) | (with_reducible refine Below.trans ?_ (Below.mono hb6 ?_)) | (with_reducible refine Below.trans ?_ (Below.mono hb7 ?_)) | (with_reducible refine Below.trans ?_ (Below.mono hb8 ?_)) | (with_reducible refine Below.trans ?_ (Below.mono hb9 ?_)) | (focus (first | omega | (simp; done) | (simp; omega))) | exact hB)); clear tok1 _t)
    | (go_at_call 75; refine (A1.out _).mono ?_; rintro e w2 ⟨rfl, hb2⟩; obtain ⟨hc2, hf2, hz2⟩ := bcell hb2; (try simp at hz2); (try have : w.heap.size < w2.heap.size := by omega); (try have : w.heap.size + 1 < w2.heap.size := by omega); (try have : w.heap.size + 1 + 1 < w2.heap.size := by omega); (try have : w.heap.size + 1 + 1 + 1 < w2.heap.size := by omega); (try have : w1.heap.size < w2.heap.size := by omega); (try have : w1.heap.size + 1 < w2.heap.size := by omega); (try have : w1.heap.size + 1 + 1 < w2.heap.size := by omega); (try have : w1.heap.size + 1 + 1 + 1 < w2.heap.size := by omega); (try have : g < w2.heap.size := by omega); (try have : ga < w2.heap.size := by omega); (try have : gb < w2.heap.size := by omega); (try have : gc < w2.heap.size := by omega); have hB : Below w.heap.size w w2 := (by repeat (first | (with_reducible exact Below.refl _ _) | (with_reducible assumption) | (with_reducible refine Below.drew ?_) | (with_reducible refine Below.alloc ?_ ?_ _) | (with_reducible refine Below.setCell ?_ ?_ _) | (with_reducible refine Below.trans ?_ (Below.mono hb ?_)) | (with_reducible refine Below.trans ?_ (Below.mono hb1 ?_)) | (with_reducible refine Below.trans ?_ (Below.mono hb2 ?_)) | (with_reducible refine Below.trans ?_ (Below.mono hb3 ?_)) | (with_reducible refine Below.trans ?_ (Below.mono hb4 ?_)) | (with_reducible refine Below.trans ?_ (Below.mono hb5 ?_)) | (with_reducible refine Below.trans ?_ (Below.mono hb6 ?_)) | (with_reducible refine Below.trans ?_ (Below.mono hb7 ?_)) | (with_reducible refine Below.trans ?_ (Below.mono hb8 ?_)) | (with_reducible refine Below.trans ?_ (Below.mono hb9 ?_)) | (focus (first | omega | (simp; done) | (simp; omega))) | exact hB)))
    | (go_at_call 76; refine (R.out _).mono ?_; rintro e w3 ⟨rfl, hb3⟩; obtain ⟨hc3, hf3, hz3⟩ := bcell hb3; (try simp at hz3); (try have : w.heap.size < w3.heap.size := by omega); (try have : w.heap.size + 1 < w3.heap.size := by omega); (try have : w.heap.size + 1 + 1 < w3.heap.size := by omega); (try have : w.heap.size + 1 + 1 + 1 < w3.heap.size := by omega); (try have : w1.heap.size < w3.heap.size := by omega); (try have : w1.heap.size + 1 < w3.heap.size := by omega); (try have : w1.heap.size + 1 + 1 < w3.heap.size := by omega); (try have : w1.heap.size + 1 + 1 + 1 < w3.heap.size := by omega); (try have : w2.heap.size < w3.heap.size := by omega); (try have : w2.heap.size + 1 < w3.heap.size := by omega); (try have : w2.heap.size + 1 + 1 < w3.heap.size := by omega); (try have : w2.heap.size + 1 + 1 + 1 < w3.heap.size := by omega); (try have : g < w3.heap.size := by omega); (try have : ga < w3.heap.size := by omega); (try have : gb < w3.heap.size := by omega); (try have : gc < w3.heap.size := by omega); have hB : Below w.heap.size w w3 := (by repeat (first | (with_reducible exact Below.refl _ _) | (with_reducible assumption) | (with_reducible refine Below.drew ?_) | (with_reducible refine Below.alloc ?_ ?_ _) | (with_reducible refine Below.setCell ?_ ?_ _) | (with_reducible refine Below.trans ?_ (Below.mono hb ?_)) | (with_reducible refine Below.trans ?_ (Below.mono hb1 ?_)) | (with_reducible refine Below.trans ?_ (Below.mono hb2 ?_)) | (with_reducible refine Below.trans ?_ (Below.mono hb3 ?_)) | (with_reducible refine Below.trans ?_ (Below.mono hb4 ?_)) | (with_reducible refine Below.trans ?_ (Below.mono hb5 ?_)) | (with_reducible refine Below.trans ?_ (Below.mono hb6 ?_)) | (with_reducible refine Below.trans ?_ (Below.mono hb7 ?_)) | (with_reducible refine Below.trans ?_ (Below.mono hb8 ?_)) | (with_reducible refine Below.trans ?_ (Below.mono hb9 ?_)) | (focus (first | omega | (simp; done) | (simp; omega))) | exact hB))))
  go_ret2
  exact ⟨rfl, (by repeat (first | (with_reducible exact Below.refl _ _) | (with_reducible assumption) | (with_reducible refine Below.drew ?_) | (with_reducible refine Below.alloc ?_ ?_ _) | (with_reducible refine Below.setCell ?_ ?_ _) | (with_reducible refine Below.trans ?_ (Below.mono hb ?_)) | (with_reducible refine Below.trans ?_ (Below.mono hb1 ?_)) | (with_reducible refine Below.trans ?_ (Below.mono hb2 ?_)) | (with_reducible refine Below.trans ?_ (Below.mono hb3 ?_)) | (with_reducible refine Below.trans ?_ (Below.mono hb4 ?_)) | (with_reducible refine Below.trans ?_ (Below.mono hb5 ?_)) | (with_reducible refine Below.trans ?_ (Below.mono hb6 ?_)) | (with_reducible refine Below.trans ?_ (Below.mono hb7 ?_)) | (with_reducible refine Below.trans ?_ (Below.mono hb8 ?_)) | (with_reducible refine Below.trans ?_ (Below.mono hb9 ?_)) | (focus (first | omega | (simp; done) | (simp; omega))) | exact hB))⟩
end Go.Proofs.Ytikjomekhnkgcaa
