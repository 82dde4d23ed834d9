import Derived.Test.YtjhepjmggenadaaFT2
import Derived.Test.YtjhepjmggenadaaFL
/- A number goes to a float64 and back: plain. -/
namespace Go.Proofs.Ytjhepjmggenadaa
open Go.RowKit

theorem fb_parts {a : Int} (ha : In64 a) (h0 : ¬ a = 0) : ∃ (W : Int) (n : Int), apW (fbI a) = W ∧ apP (fbI a) + 32 = n ∧ apS (fbI a) = decide (a < 0) ∧ nanB (fbI a) = false ∧ fbI a ≠ 9218868437227405312 ∧ fbI a ≠ 18442240474082181120 ∧
    ((W = ((kpt a.natAbs : Nat) : Int) ∧ n = (a.natAbs.log2 : Int) - 52) ∨ (((kpt a.natAbs : Nat) : Int) = 9007199254740992 ∧ W = 4503599627370496 ∧ n = (a.natAbs.log2 : Int) - 51)) := by
  unfold In64 at ha
  have hp : 0 < a.natAbs := by omega
  have hL : a.natAbs.log2 < 64 := (Nat.log2_lt (by omega)).2 (by omega)
  have kb := kpt_bd hp
  have eb : fbI a = (if a < 0 then 9223372036854775808 else 0) + ((a.natAbs.log2 + 990) * 4503599627370496 + kpt a.natAbs) := by
    unfold fbI
    rw [if_neg h0]
    unfold Ieee.Format.word
    rw [sw64]
    by_cases hs : a < 0
    · rw [if_pos hs, decide_eq_true hs, if_pos rfl]
    · rw [if_neg hs, decide_eq_false hs, if_neg (by simp)]; omega
  have hS : apS (fbI a) = decide (a < 0) := by
    unfold apS
    by_cases hs : a < 0
    · rw [eb, if_pos hs, decide_eq_true hs]
      have : (9223372036854775808 + ((a.natAbs.log2 + 990) * 4503599627370496 + kpt a.natAbs)) / 9223372036854775808 = 1 := by omega
      rw [this]; rfl
    · rw [eb, if_neg hs, decide_eq_false hs]
      have : (0 + ((a.natAbs.log2 + 990) * 4503599627370496 + kpt a.natAbs)) / 9223372036854775808 = 0 := by omega
      rw [this]; rfl
  have hN : nanB (fbI a) = false := by
    unfold nanB
    refine decide_eq_false ?_
    rw [eb]
    split <;> omega
  have hI : fbI a ≠ 9218868437227405312 := by rw [eb]; split <;> omega
  have hJ : fbI a ≠ 18442240474082181120 := by rw [eb]; split <;> omega
  by_cases hk : kpt a.natAbs = 9007199254740992
  · have e1 : fbI a / 4503599627370496 % 2048 = a.natAbs.log2 + 992 := by rw [eb]; split <;> omega
    have e2 : fbI a % 4503599627370496 = 0 := by rw [eb]; split <;> omega
    refine ⟨4503599627370496, (a.natAbs.log2 : Int) - 51, ?_, ?_, hS, hN, hI, hJ, .inr ⟨by omega, rfl, rfl⟩⟩
    · unfold apW; rw [e1, e2, if_neg (by omega)]; rfl
    · unfold apP; rw [e1, if_neg (by omega)]; omega
  · have e1 : fbI a / 4503599627370496 % 2048 = a.natAbs.log2 + 991 := by rw [eb]; split <;> omega
    have e2 : fbI a % 4503599627370496 = kpt a.natAbs - 4503599627370496 := by rw [eb]; split <;> omega
    refine ⟨((kpt a.natAbs : Nat) : Int), (a.natAbs.log2 : Int) - 52, ?_, ?_, hS, hN, hI, hJ, .inl ⟨rfl, rfl⟩⟩
    · unfold apW; rw [e1, e2, if_neg (by omega)]; omega
    · unfold apP; rw [e1, if_neg (by omega)]; omega
theorem sgn_abs {a : Int} : sgn (decide (a < 0)) ((a.natAbs : Nat) : Int) = a := by
  by_cases hs : a < 0
  · rw [decide_eq_true hs]; show -((a.natAbs : Nat) : Int) = a; omega
  · rw [decide_eq_false hs]; show ((a.natAbs : Nat) : Int) = a; omega
theorem rnd_mulr (x d : Int) (hd : 0 < d) : rnd (x * d) d = x := by
  unfold rnd
  rw [Int.mul_emod_left, Int.mul_ediv_cancel _ (by omega), if_neg (by omega)]
/-- There and back. -/
theorem fb_back {a : Int} (ha : In64 a) : (-9007199254740992 < a → a < 9007199254740992 → clampI (floatI (fbI a)) = a ∧ overI (floatI (fbI a)) = false) ∧ -512 ≤ clampI (floatI (fbI a)) - a ∧ clampI (floatI (fbI a)) - a ≤ 512 := by
  have self : clampI a = a ∧ overI a = false := by
    unfold In64 at ha
    refine ⟨by unfold clampI; rw [if_neg (by omega), if_neg (by omega)], ?_⟩
    unfold overI
    rw [decide_eq_false (by omega), decide_eq_false (by omega)]; rfl
  have same : ∀ x o, x = clampI a → o = overI a → (-9007199254740992 < a → a < 9007199254740992 → x = a ∧ o = false) ∧ -512 ≤ x - a ∧ x - a ≤ 512 := by
    intro x o hx ho
    rw [self.1] at hx
    rw [self.2] at ho
    exact ⟨fun _ _ => ⟨hx, ho⟩, by omega, by omega⟩
  by_cases h0 : a = 0
  · subst h0
    have e : floatI (fbI 0) = 0 := by
      have e0 : fbI 0 = 0 := rfl
      rw [e0, float_low 0 1042 (by decide) (by omega)]
      have : apW 0 = 0 := by decide
      rw [this, rnd_small (by omega) (by have := pw_pos 1042; omega)]
      rfl
    rw [e]
    exact same _ _ rfl rfl
  · obtain ⟨W, n, eW, en, eS, _, _, _, hc⟩ := fb_parts ha h0
    have ha' := ha
    unfold In64 at ha'
    have hp : 0 < a.natAbs := by omega
    have hL : a.natAbs.log2 < 64 := (Nat.log2_lt (by omega)).2 (by omega)
    have kb := kpt_bd hp
    by_cases hl : a.natAbs.log2 < 52
    · -- fewer than 53 bits: exact
      have hk : kpt a.natAbs = a.natAbs * 2 ^ (52 - a.natAbs.log2) := by unfold kpt; rw [if_pos (by omega)]
      have hlt : kpt a.natAbs < 9007199254740992 := by
        rw [hk]
        have q := Nat.mul_lt_mul_of_pos_right (log_hi hp) (Nat.two_pow_pos (52 - a.natAbs.log2))
        rw [← Nat.pow_add, show a.natAbs.log2 + 1 + (52 - a.natAbs.log2) = 53 by omega] at q
        exact q
      obtain ⟨rfl, rfl⟩ : W = ((kpt a.natAbs : Nat) : Int) ∧ n = (a.natAbs.log2 : Int) - 52 := by
        rcases hc with h | h
        · exact h
        · omega
      have e : floatI (fbI a) = a := by
        rw [float_low (fbI a) (52 - a.natAbs.log2) (by omega) (by omega), eW, eS, hk, Int.natCast_mul, Int.natCast_pow]
        show sgn _ (rnd (((a.natAbs : Nat) : Int) * 2 ^ (52 - a.natAbs.log2)) (2 ^ (52 - a.natAbs.log2))) = a
        rw [rnd_mulr _ _ (pw_pos _), sgn_abs]
      rw [e]
      exact same _ _ rfl rfl
    · obtain ⟨t, ht⟩ : ∃ t : Nat, n = (t : Int) := ⟨n.toNat, by rcases hc with h | h <;> omega⟩
      obtain ⟨c1, c2⟩ := float_high (fbI a) t t (by omega) (Nat.le_refl _) (.inl rfl)
      rw [c1, c2, eW, eS]
      by_cases h52 : a.natAbs.log2 = 52
      · have hk : kpt a.natAbs = a.natAbs := by unfold kpt; rw [if_pos (by omega), h52]; simp
        have hi : a.natAbs < 9007199254740992 := by have := log_hi hp; rw [h52] at this; exact this
        have ew : W * 2 ^ t = ((a.natAbs : Nat) : Int) := by
          rcases hc with ⟨h, h'⟩ | ⟨h, _⟩
          · have : t = 0 := by omega
            subst this
            rw [h, hk]; simp
          · omega
        rw [ew, sgn_abs]
        exact same _ _ rfl rfl
      · have hk : kpt a.natAbs = rndN a.natAbs (2 ^ (a.natAbs.log2 - 52)) := by unfold kpt; rw [if_neg (by omega)]
        obtain ⟨k, hkk⟩ : ∃ k, k = a.natAbs.log2 - 52 := ⟨_, rfl⟩
        have ew : W * 2 ^ t = ((kpt a.natAbs : Nat) : Int) * 2 ^ k := by
          rcases hc with ⟨h, h'⟩ | ⟨h, h', h''⟩
          · have : t = k := by omega
            rw [h, this]
          · have : t = k + 1 := by omega
            rw [h', h, this, Int.pow_succ]
            have := pw_pos k
            omega
        rw [← hkk] at hk
        have er : ((kpt a.natAbs : Nat) : Int) = rnd ((a.natAbs : Nat) : Int) (2 ^ k) := by rw [hk, rndN_int, Int.natCast_pow]; rfl
        rw [ew, er]
        have big : 4503599627370496 * 2 ^ k ≤ ((a.natAbs : Nat) : Int) * 1 := by
          have := log_lo hp
          rw [show a.natAbs.log2 = 52 + k by omega, Nat.pow_add] at this
          have e2 : ((2 ^ 52 * 2 ^ k : Nat) : Int) = 4503599627370496 * 2 ^ k := by rw [Int.natCast_mul, Int.natCast_pow]; rfl
          omega
        have hfar : ¬ (-9007199254740992 < a ∧ a < 9007199254740992) := by
          have := log_lo hp
          have := Nat.pow_le_pow_right (show 1 ≤ 2 by omega) (show 53 ≤ a.natAbs.log2 by omega)
          omega
        refine ⟨fun h1 h2 => absurd ⟨h1, h2⟩ hfar, ?_⟩
        have key : ∀ X : Int, -512 ≤ X - ((a.natAbs : Nat) : Int) → X - ((a.natAbs : Nat) : Int) ≤ 512 → -512 ≤ clampI (sgn (decide (a < 0)) X) - a ∧ clampI (sgn (decide (a < 0)) X) - a ≤ 512 := by
          intro X h1 h2
          by_cases hs : a < 0
          · rw [decide_eq_true hs]
            show -512 ≤ clampI (-X) - a ∧ clampI (-X) - a ≤ 512
            unfold clampI
            split
            · omega
            · split <;> omega
          · rw [decide_eq_false hs]
            show -512 ≤ clampI X - a ∧ clampI X - a ≤ 512
            unfold clampI
            split
            · omega
            · split <;> omega
        by_cases h63 : a.natAbs.log2 = 63
        · have hm : ((a.natAbs : Nat) : Int) = 4503599627370496 * 2 ^ k := by
            have : k = 11 := by omega
            subst this
            have := log_lo hp
            rw [h63] at this
            omega
          have : rnd ((a.natAbs : Nat) : Int) (2 ^ k) = 4503599627370496 := by rw [hm, rnd_mulr _ _ (pw_pos _)]
          rw [this]
          exact key _ (by omega) (by omega)
        · have hk10 : k ≤ 10 := by omega
          have hd : (2 : Int) ^ k ≤ 1024 := by have := pow_ge hk10; exact this
          obtain ⟨r1, r2, _⟩ := rnd_near ((a.natAbs : Nat) : Int) (2 ^ k) (by omega) (pw_pos k)
          exact key _ (by omega) (by omega)
end Go.Proofs.Ytjhepjmggenadaa
