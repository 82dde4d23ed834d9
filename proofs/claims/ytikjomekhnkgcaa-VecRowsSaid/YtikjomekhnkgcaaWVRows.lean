import Derived.Test.YtikjomekhnkgcaaD5
import Derived.Test.YtikjomekhnkgcaaO2
import Derived.Test.YtikjomekhnkgcaaRowM
/- The law VecRows, walked. -/
namespace Go.Proofs.Ytikjomekhnkgcaa
open Go.RowKit
attribute [local go_sem ↓] Go.wp_at_zero Go.wp_at_succ

section
variable {P : Program}
/-- One number appended, at a step of a region that draws its order. -/
theorem step_app_one {ops : Array Oper} {o : Oper} {a : Act} {w : World} {K : Act → World → Prop} {Q : Exit → Act → World → Prop} {E : Prop} (hgd : o.guard = none) (s x : Operand) (t : TypeId)
    (ho : o.op = .call { callee := .builtin .append, args := #[s, x], argTypes := #[t, t] })
    (B : Nat) (e : TypeId) (i : TypeInfo) (z : Value) (ht : P.underlying t = some (.slice e)) (hi : P.info? e = some i) (hz : i.zero = some z) (hsize : i.size = 1) (hby : i.bytes = 8) (hzs : z.cells.size = 1)
    (v : Value) (n : Nat) (xs : List Value) (hs : a.eval s = v) (hown : w.ownsRow B e 1 v n xs) (g : Nat) (u : Value) (hx : a.eval x = .slice (some ⟨g, 0, none⟩) 1 1) (hu : w.cell? ⟨g, 0, none⟩ = some u) (h1 : u.oneCell' = true) (hn : n < 1000000) (hB : B ≤ w.heap.size)
    (h : ∀ v' w', w'.ownsRow B e 1 v' (n + 1) (xs ++ [u]) → w.grownBy w' v.ownBlock → K (a.put o.dst v') w') :
    if Region.wanted o (yielded ops a.tmps) = true then Oper.wp P o a w K Q else E := by
  have hw : Region.wanted o (yielded ops a.tmps) = true := by simp [Region.wanted, hgd]
  rw [if_pos hw]
  obtain ⟨v', w', hrun, h2, h3, _, _⟩ := run_append_own_at (P := P) w B t o.type e i z 1 8 ht hi hz hsize hby hzs (by decide) v n xs hown ⟨g, 0, none⟩ 1 1 [u] rfl
    (by
      intro j y hj
      match j, hj with
      | 0, hj =>
        simp at hj; subst hj
        rw [show (⟨g, 0, none⟩ : Addr).add 0 = ⟨g, 0, none⟩ by simp [Addr.add]]
        exact hu
      | j + 1, hj => simp at hj)
    (by intro y hy; simp at hy; subst hy; exact h1) (by unfold maxLen; omega) (by omega) hB
  unfold Oper.wp execOp
  simp only [ho, resolve, invoke, builtin, Sem.run_bind, Sem.run_pure, Result.andThen_ok, List.map_toArray, List.map_cons, List.map_nil, hs, hx, hrun]
  exact h v' w' h2 h3
end
/-- A matrix turned about. -/
def trV (az : List Int) (r c : Nat) (q : Nat) : Int := az.getD (q % r * c + q / r) 0
def trL (az : List Int) (r c : Nat) (N : Nat) : List Int := (List.range N).map (trV az r c)
theorem trL_len (az : List Int) (r c N : Nat) : (trL az r c N).length = N := by simp [trL]
theorem trL_succ (az : List Int) (r c N : Nat) : trL az r c (N + 1) = trL az r c N ++ [trV az r c N] := by simp [trL, List.range_succ]
theorem trL_get (az : List Int) (r c : Nat) {N j : Nat} (h : j < N) : (trL az r c N).getD j 0 = trV az r c j := by
  simp [trL, List.getD_eq_getElem?_getD, List.getElem?_map, List.getElem?_range h]
theorem trV_at (az : List Int) (r c k i : Nat) (hi : i < r) : trV az r c (k * r + i) = az.getD (i * c + k) 0 := by
  unfold trV
  rw [show (k * r + i) % r = i by rw [Nat.add_comm, Nat.add_mul_mod_self_right]; exact Nat.mod_eq_of_lt hi, show (k * r + i) / r = k by rw [Nat.add_comm, Nat.add_mul_div_right _ _ (by omega), Nat.div_eq_of_lt hi]; omega]
theorem trL_all {az : List Int} (ha : All64 az) (r c N : Nat) : All64 (trL az r c N) := by
  intro j
  rcases Nat.lt_or_ge j N with h | h
  · rw [trL_get _ _ _ h]; exact ha _
  · have e : (trL az r c N).getD j 0 = 0 := by rw [List.getD_eq_getElem?_getD, List.getElem?_eq_none (by rw [trL_len]; exact h)]; rfl
    rw [e]; unfold In64; omega
theorem turned_same {xs az : List Int} {r c : Nat} (i : Nat) (hi : i < r) : vmV xs (trL az r c (c * r)) c r i = mvV xs az c i := by
  unfold vmV mvV
  rw [dotI_congr (n := c) (zs := xs) (vs := az) (g := i * c) (aq := 1) (fun k hk => ?_) c (Nat.le_refl _)]
  have h1 : (k + 1) * r ≤ c * r := Nat.mul_le_mul_right r (by omega)
  rw [Nat.succ_mul] at h1
  rw [trL_get _ _ _ (by omega), Nat.add_comm i (k * r), trV_at az r c k i hi, Nat.mul_one]
/-- A part of a row. -/
theorem rd_part {w : World} {u : Option Nat} {b off n : Nat} {xs : List Int} (h : Rd w u (some ⟨b, off, none⟩) n xs) (q m : Nat) (hm : q + m ≤ n) (hn : 0 < n) : Rd w u (some ⟨b, off + q, none⟩) m ((xs.drop q).take m) := by
  refine ⟨by rw [List.length_take, List.length_drop, h.1]; omega, fun hm0 => ?_⟩
  obtain ⟨b', off', e, hb, hne, hc⟩ := h.2 hn
  injection e with e
  injection e with e1 e2 _
  subst e1 e2
  refine ⟨b, off + q, rfl, hb, hne, fun j hj => ?_⟩
  have := hc (q + j) (by omega)
  rw [← Nat.add_assoc] at this
  rw [this, List.getD_eq_getElem?_getD, List.getD_eq_getElem?_getD, List.getElem?_take_of_lt hj, List.getElem?_drop]
theorem part_get {xs : List Int} {q m j : Nat} (hj : j < m) : ((xs.drop q).take m).getD j 0 = xs.getD (q + j) 0 := by
  rw [List.getD_eq_getElem?_getD, List.getD_eq_getElem?_getD, List.getElem?_take_of_lt hj, List.getElem?_drop]
theorem part_all {xs : List Int} (h : All64 xs) (q m : Nat) : All64 ((xs.drop q).take m) := by
  intro j
  rcases Nat.lt_or_ge j m with hj | hj
  · rw [part_get hj]; exact h _
  · have e : ((xs.drop q).take m).getD j 0 = 0 := by rw [List.getD_eq_getElem?_getD, List.getElem?_eq_none (by rw [List.length_take]; omega)]; rfl
    rw [e]; unfold In64; omega
theorem part_dot {xs az : List Int} {c i : Nat} : rnd (dotI ((az.drop (i * c)).take c) xs 0 1 c) 4294967296 = mvV xs az c i := by
  unfold mvV
  rw [dotI_congr (n := c) (zs := xs) (vs := az) (g := i * c) (aq := 1) (fun k hk => ?_) c (Nat.le_refl _)]
  rw [part_get hk, Nat.mul_one, Nat.zero_add, Int.mul_comm]
set_option maxHeartbeats 2000000 in
set_option maxRecDepth 100000 in
theorem vrows_out (r c : Int) (A B : Option Addr) (n cp m cq : Nat) (w : World) (h : ¬ ((n ≤ 200 ∧ m ≤ 200) ∧ MatOk r c n ∧ (m : Int) = c)) :
    Calls Try.prog 3 #[.agg #[.int .i64 r, .int .i64 c, .slice A n cp], .slice B m cq] w fun e w' => e = .returned (.bool true) ∧ Below w.heap.size w w' := by
  have AW := Lib.hid (fun W => awake4_any W)
  by_cases h1 : n ≤ 200 ∧ m ≤ 200
  · have t1 : decide (n ≤ 200 ∧ m ≤ 200) = true := decide_eq_true h1
    by_cases h2 : MatOk r c n
    · have RI := Lib.hid (fun W => vright_ok r c A n cp W h2)
      have h3 : ((m : Int) != c) = true := by
        simp only [bne_iff_ne]
        exact fun e => h ⟨h1, h2, e⟩
      clear h h1 h2
      go_enter Try.func3, Try.ntmps3
      go_wp2_with (first
  | (go_at_call 13; refine (AW.out _).mono ?_; rintro e w1 ⟨rfl, hb1⟩; obtain ⟨hc1, hf1, hz1⟩ := bcell hb1; (try simp at hz1); (try have : w.heap.size < w1.heap.size := by omega); (try have : w.heap.size + 1 < w1.heap.size := by omega); (try have : w.heap.size + 1 + 1 < w1.heap.size := by omega); (try have : w.heap.size + 1 + 1 + 1 < w1.heap.size := by omega); (try have : g < w1.heap.size := by omega); (try have : ga < w1.heap.size := by omega); (try have : gb < w1.heap.size := by omega); (try have : gc < w1.heap.size := by omega); have hB : Below w.heap.size w w1 := (by repeat (first | (with_reducible exact Below.refl _ _) | (with_reducible assumption) | (with_reducible refine Below.drew ?_) | (with_reducible refine Below.alloc ?_ ?_ _) | (with_reducible refine Below.setCell ?_ ?_ _) | (with_reducible refine Below.trans ?_ (Below.mono hb ?_)) | (with_reducible refine Below.trans ?_ (Below.mono hb1 ?_)) | (with_reducible refine Below.trans ?_ (Below.mono hb2 ?_)) | (with_reducible refine Below.trans ?_ (Below.mono hb3 ?_)) | (with_reducible refine Below.trans ?_ (Below.mono hb4 ?_)) | (with_reducible refine Below.trans ?_ (Below.mono hb5 ?_)) | (with_reducible refine Below.trans ?_ (Below.mono hb6 ?_)) | (with_reducible refine Below.trans ?_ (Below.mono hb7 ?_)) | (with_reducible refine Below.trans ?_ (Below.mono hb8 ?_)) | (with_reducible refine Below.trans ?_ (Below.mono hb9 ?_)) | (focus (first | omega | (simp; done) | (simp; omega))) | exact hB)))
  | (go_at_call 14; refine (few4_two A B n m cp cq _ _ (by simp) (by simp)).mono ?_; rintro e w2 ⟨rfl, rfl⟩)
  | (go_at_call 15; refine (RI.out _).mono ?_; rintro e w3 ⟨rfl, hb3⟩; obtain ⟨hc3, hf3, hz3⟩ := bcell hb3; (try simp at hz3); (try have : w.heap.size < w3.heap.size := by omega); (try have : w.heap.size + 1 < w3.heap.size := by omega); (try have : w.heap.size + 1 + 1 < w3.heap.size := by omega); (try have : w.heap.size + 1 + 1 + 1 < w3.heap.size := by omega); (try have : w1.heap.size < w3.heap.size := by omega); (try have : w1.heap.size + 1 < w3.heap.size := by omega); (try have : w1.heap.size + 1 + 1 < w3.heap.size := by omega); (try have : w1.heap.size + 1 + 1 + 1 < w3.heap.size := by omega); (try have : w2.heap.size < w3.heap.size := by omega); (try have : w2.heap.size + 1 < w3.heap.size := by omega); (try have : w2.heap.size + 1 + 1 < w3.heap.size := by omega); (try have : w2.heap.size + 1 + 1 + 1 < w3.heap.size := by omega); (try have : g < w3.heap.size := by omega); (try have : ga < w3.heap.size := by omega); (try have : gb < w3.heap.size := by omega); (try have : gc < w3.heap.size := by omega); have hB : Below w.heap.size w w3 := (by repeat (first | (with_reducible exact Below.refl _ _) | (with_reducible assumption) | (with_reducible refine Below.drew ?_) | (with_reducible refine Below.alloc ?_ ?_ _) | (with_reducible refine Below.setCell ?_ ?_ _) | (with_reducible refine Below.trans ?_ (Below.mono hb ?_)) | (with_reducible refine Below.trans ?_ (Below.mono hb1 ?_)) | (with_reducible refine Below.trans ?_ (Below.mono hb2 ?_)) | (with_reducible refine Below.trans ?_ (Below.mono hb3 ?_)) | (with_reducible refine Below.trans ?_ (Below.mono hb4 ?_)) | (with_reducible refine Below.trans ?_ (Below.mono hb5 ?_)) | (with_reducible refine Below.trans ?_ (Below.mono hb6 ?_)) | (with_reducible refine Below.trans ?_ (Below.mono hb7 ?_)) | (with_reducible refine Below.trans ?_ (Below.mono hb8 ?_)) | (with_reducible refine Below.trans ?_ (Below.mono hb9 ?_)) | (focus (first | omega | (simp; done) | (simp; omega))) | exact hB))))
      go_ret
      exact ⟨rfl, (by repeat (first | (with_reducible exact Below.refl _ _) | (with_reducible assumption) | (with_reducible refine Below.drew ?_) | (with_reducible refine Below.alloc ?_ ?_ _) | (with_reducible refine Below.setCell ?_ ?_ _) | (with_reducible refine Below.trans ?_ (Below.mono hb ?_)) | (with_reducible refine Below.trans ?_ (Below.mono hb1 ?_)) | (with_reducible refine Below.trans ?_ (Below.mono hb2 ?_)) | (with_reducible refine Below.trans ?_ (Below.mono hb3 ?_)) | (with_reducible refine Below.trans ?_ (Below.mono hb4 ?_)) | (with_reducible refine Below.trans ?_ (Below.mono hb5 ?_)) | (with_reducible refine Below.trans ?_ (Below.mono hb6 ?_)) | (with_reducible refine Below.trans ?_ (Below.mono hb7 ?_)) | (with_reducible refine Below.trans ?_ (Below.mono hb8 ?_)) | (with_reducible refine Below.trans ?_ (Below.mono hb9 ?_)) | (focus (first | omega | (simp; done) | (simp; omega))) | exact hB))⟩
    · have RI := Lib.hid (fun W => vright_no r c A n cp W h2)
      clear h h1 h2
      go_enter Try.func3, Try.ntmps3
      go_wp2_with (first
  | (go_at_call 13; refine (AW.out _).mono ?_; rintro e w1 ⟨rfl, hb1⟩; obtain ⟨hc1, hf1, hz1⟩ := bcell hb1; (try simp at hz1); (try have : w.heap.size < w1.heap.size := by omega); (try have : w.heap.size + 1 < w1.heap.size := by omega); (try have : w.heap.size + 1 + 1 < w1.heap.size := by omega); (try have : w.heap.size + 1 + 1 + 1 < w1.heap.size := by omega); (try have : g < w1.heap.size := by omega); (try have : ga < w1.heap.size := by omega); (try have : gb < w1.heap.size := by omega); (try have : gc < w1.heap.size := by omega); have hB : Below w.heap.size w w1 := (by repeat (first | (with_reducible exact Below.refl _ _) | (with_reducible assumption) | (with_reducible refine Below.drew ?_) | (with_reducible refine Below.alloc ?_ ?_ _) | (with_reducible refine Below.setCell ?_ ?_ _) | (with_reducible refine Below.trans ?_ (Below.mono hb ?_)) | (with_reducible refine Below.trans ?_ (Below.mono hb1 ?_)) | (with_reducible refine Below.trans ?_ (Below.mono hb2 ?_)) | (with_reducible refine Below.trans ?_ (Below.mono hb3 ?_)) | (with_reducible refine Below.trans ?_ (Below.mono hb4 ?_)) | (with_reducible refine Below.trans ?_ (Below.mono hb5 ?_)) | (with_reducible refine Below.trans ?_ (Below.mono hb6 ?_)) | (with_reducible refine Below.trans ?_ (Below.mono hb7 ?_)) | (with_reducible refine Below.trans ?_ (Below.mono hb8 ?_)) | (with_reducible refine Below.trans ?_ (Below.mono hb9 ?_)) | (focus (first | omega | (simp; done) | (simp; omega))) | exact hB)))
  | (go_at_call 14; refine (few4_two A B n m cp cq _ _ (by simp) (by simp)).mono ?_; rintro e w2 ⟨rfl, rfl⟩)
  | (go_at_call 15; refine (RI.out _).mono ?_; rintro e w3 ⟨rfl, hb3⟩; obtain ⟨hc3, hf3, hz3⟩ := bcell hb3; (try simp at hz3); (try have : w.heap.size < w3.heap.size := by omega); (try have : w.heap.size + 1 < w3.heap.size := by omega); (try have : w.heap.size + 1 + 1 < w3.heap.size := by omega); (try have : w.heap.size + 1 + 1 + 1 < w3.heap.size := by omega); (try have : w1.heap.size < w3.heap.size := by omega); (try have : w1.heap.size + 1 < w3.heap.size := by omega); (try have : w1.heap.size + 1 + 1 < w3.heap.size := by omega); (try have : w1.heap.size + 1 + 1 + 1 < w3.heap.size := by omega); (try have : w2.heap.size < w3.heap.size := by omega); (try have : w2.heap.size + 1 < w3.heap.size := by omega); (try have : w2.heap.size + 1 + 1 < w3.heap.size := by omega); (try have : w2.heap.size + 1 + 1 + 1 < w3.heap.size := by omega); (try have : g < w3.heap.size := by omega); (try have : ga < w3.heap.size := by omega); (try have : gb < w3.heap.size := by omega); (try have : gc < w3.heap.size := by omega); have hB : Below w.heap.size w w3 := (by repeat (first | (with_reducible exact Below.refl _ _) | (with_reducible assumption) | (with_reducible refine Below.drew ?_) | (with_reducible refine Below.alloc ?_ ?_ _) | (with_reducible refine Below.setCell ?_ ?_ _) | (with_reducible refine Below.trans ?_ (Below.mono hb ?_)) | (with_reducible refine Below.trans ?_ (Below.mono hb1 ?_)) | (with_reducible refine Below.trans ?_ (Below.mono hb2 ?_)) | (with_reducible refine Below.trans ?_ (Below.mono hb3 ?_)) | (with_reducible refine Below.trans ?_ (Below.mono hb4 ?_)) | (with_reducible refine Below.trans ?_ (Below.mono hb5 ?_)) | (with_reducible refine Below.trans ?_ (Below.mono hb6 ?_)) | (with_reducible refine Below.trans ?_ (Below.mono hb7 ?_)) | (with_reducible refine Below.trans ?_ (Below.mono hb8 ?_)) | (with_reducible refine Below.trans ?_ (Below.mono hb9 ?_)) | (focus (first | omega | (simp; done) | (simp; omega))) | exact hB))))
      go_ret
      exact ⟨rfl, (by repeat (first | (with_reducible exact Below.refl _ _) | (with_reducible assumption) | (with_reducible refine Below.drew ?_) | (with_reducible refine Below.alloc ?_ ?_ _) | (with_reducible refine Below.setCell ?_ ?_ _) | (with_reducible refine Below.trans ?_ (Below.mono hb ?_)) | (with_reducible refine Below.trans ?_ (Below.mono hb1 ?_)) | (with_reducible refine Below.trans ?_ (Below.mono hb2 ?_)) | (with_reducible refine Below.trans ?_ (Below.mono hb3 ?_)) | (with_reducible refine Below.trans ?_ (Below.mono hb4 ?_)) | (with_reducible refine Below.trans ?_ (Below.mono hb5 ?_)) | (with_reducible refine Below.trans ?_ (Below.mono hb6 ?_)) | (with_reducible refine Below.trans ?_ (Below.mono hb7 ?_)) | (with_reducible refine Below.trans ?_ (Below.mono hb8 ?_)) | (with_reducible refine Below.trans ?_ (Below.mono hb9 ?_)) | (focus (first | omega | (simp; done) | (simp; omega))) | exact hB))⟩
  · have t1 : decide (n ≤ 200 ∧ m ≤ 200) = false := decide_eq_false h1
    clear h h1
    go_enter Try.func3, Try.ntmps3
    go_wp2_with (first
  | (go_at_call 13; refine (AW.out _).mono ?_; rintro e w1 ⟨rfl, hb1⟩; obtain ⟨hc1, hf1, hz1⟩ := bcell hb1; (try simp at hz1); (try have : w.heap.size < w1.heap.size := by omega); (try have : w.heap.size + 1 < w1.heap.size := by omega); (try have : w.heap.size + 1 + 1 < w1.heap.size := by omega); (try have : w.heap.size + 1 + 1 + 1 < w1.heap.size := by omega); (try have : g < w1.heap.size := by omega); (try have : ga < w1.heap.size := by omega); (try have : gb < w1.heap.size := by omega); (try have : gc < w1.heap.size := by omega); have hB : Below w.heap.size w w1 := (by repeat (first | (with_reducible exact Below.refl _ _) | (with_reducible assumption) | (with_reducible refine Below.drew ?_) | (with_reducible refine Below.alloc ?_ ?_ _) | (with_reducible refine Below.setCell ?_ ?_ _) | (with_reducible refine Below.trans ?_ (Below.mono hb ?_)) | (with_reducible refine Below.trans ?_ (Below.mono hb1 ?_)) | (with_reducible refine Below.trans ?_ (Below.mono hb2 ?_)) | (with_reducible refine Below.trans ?_ (Below.mono hb3 ?_)) | (with_reducible refine Below.trans ?_ (Below.mono hb4 ?_)) | (with_reducible refine Below.trans ?_ (Below.mono hb5 ?_)) | (with_reducible refine Below.trans ?_ (Below.mono hb6 ?_)) | (with_reducible refine Below.trans ?_ (Below.mono hb7 ?_)) | (with_reducible refine Below.trans ?_ (Below.mono hb8 ?_)) | (with_reducible refine Below.trans ?_ (Below.mono hb9 ?_)) | (focus (first | omega | (simp; done) | (simp; omega))) | exact hB)))
  | (go_at_call 14; refine (few4_two A B n m cp cq _ _ (by simp) (by simp)).mono ?_; rintro e w2 ⟨rfl, rfl⟩)
  | (go_at_call 15; refine (RI.out _).mono ?_; rintro e w3 ⟨rfl, hb3⟩; obtain ⟨hc3, hf3, hz3⟩ := bcell hb3; (try simp at hz3); (try have : w.heap.size < w3.heap.size := by omega); (try have : w.heap.size + 1 < w3.heap.size := by omega); (try have : w.heap.size + 1 + 1 < w3.heap.size := by omega); (try have : w.heap.size + 1 + 1 + 1 < w3.heap.size := by omega); (try have : w1.heap.size < w3.heap.size := by omega); (try have : w1.heap.size + 1 < w3.heap.size := by omega); (try have : w1.heap.size + 1 + 1 < w3.heap.size := by omega); (try have : w1.heap.size + 1 + 1 + 1 < w3.heap.size := by omega); (try have : w2.heap.size < w3.heap.size := by omega); (try have : w2.heap.size + 1 < w3.heap.size := by omega); (try have : w2.heap.size + 1 + 1 < w3.heap.size := by omega); (try have : w2.heap.size + 1 + 1 + 1 < w3.heap.size := by omega); (try have : g < w3.heap.size := by omega); (try have : ga < w3.heap.size := by omega); (try have : gb < w3.heap.size := by omega); (try have : gc < w3.heap.size := by omega); have hB : Below w.heap.size w w3 := (by repeat (first | (with_reducible exact Below.refl _ _) | (with_reducible assumption) | (with_reducible refine Below.drew ?_) | (with_reducible refine Below.alloc ?_ ?_ _) | (with_reducible refine Below.setCell ?_ ?_ _) | (with_reducible refine Below.trans ?_ (Below.mono hb ?_)) | (with_reducible refine Below.trans ?_ (Below.mono hb1 ?_)) | (with_reducible refine Below.trans ?_ (Below.mono hb2 ?_)) | (with_reducible refine Below.trans ?_ (Below.mono hb3 ?_)) | (with_reducible refine Below.trans ?_ (Below.mono hb4 ?_)) | (with_reducible refine Below.trans ?_ (Below.mono hb5 ?_)) | (with_reducible refine Below.trans ?_ (Below.mono hb6 ?_)) | (with_reducible refine Below.trans ?_ (Below.mono hb7 ?_)) | (with_reducible refine Below.trans ?_ (Below.mono hb8 ?_)) | (with_reducible refine Below.trans ?_ (Below.mono hb9 ?_)) | (focus (first | omega | (simp; done) | (simp; omega))) | exact hB))))
    go_ret
    exact ⟨rfl, (by repeat (first | (with_reducible exact Below.refl _ _) | (with_reducible assumption) | (with_reducible refine Below.drew ?_) | (with_reducible refine Below.alloc ?_ ?_ _) | (with_reducible refine Below.setCell ?_ ?_ _) | (with_reducible refine Below.trans ?_ (Below.mono hb ?_)) | (with_reducible refine Below.trans ?_ (Below.mono hb1 ?_)) | (with_reducible refine Below.trans ?_ (Below.mono hb2 ?_)) | (with_reducible refine Below.trans ?_ (Below.mono hb3 ?_)) | (with_reducible refine Below.trans ?_ (Below.mono hb4 ?_)) | (with_reducible refine Below.trans ?_ (Below.mono hb5 ?_)) | (with_reducible refine Below.trans ?_ (Below.mono hb6 ?_)) | (with_reducible refine Below.trans ?_ (Below.mono hb7 ?_)) | (with_reducible refine Below.trans ?_ (Below.mono hb8 ?_)) | (with_reducible refine Below.trans ?_ (Below.mono hb9 ?_)) | (focus (first | omega | (simp; done) | (simp; omega))) | exact hB))⟩
theorem OwnF.offS' {B : Nat} {E : TypeId} {w : World} {v : Value} {n : Nat} {xs : List Int} (h : w.ownsRow B E 1 v n (xs.map iv)) (hl : xs.length = n) : ∃ A c, v = .slice A n c ∧ Rd w none A n xs := by
  subst hl
  obtain ⟨A, c, e, hr⟩ := own_apart (S := fun _ => False) h fun g _ hs => hs
  exact ⟨A, c, e, hr.none_⟩
/-- What stands while the matrix is turned about. -/
def TRn (w wr : World) (T r c N : Nat) (az : List Int) (A : Option Addr) (n cp : Nat) : Prop :=
  ∃ V, wr.heap[T]? = some (.cells #[.int .i64 c, .int .i64 r, V] 24 (0, 0)) ∧ wr.ownsRow (T + 1) 28 1 V N ((trL az r c N).map iv) ∧ Below w.heap.size w wr ∧ w.heap.size < T ∧ wr.heap[w.heap.size]? = some (.cells #[.int .i64 r, .int .i64 c, .slice A n cp] 24 (0, 0))
theorem TRn.next {w wr w5 : World} {T r c N : Nat} {az : List Int} {A : Option Addr} {n cp : Nat} {V v' a0 a1 a2 : Value} (hO : wr.ownsRow (T + 1) 28 1 V N ((trL az r c N).map iv)) (hB : Below w.heap.size w wr) (hT : w.heap.size < T)
    (bM : wr.heap[w.heap.size]? = some (.cells #[.int .i64 r, .int .i64 c, .slice A n cp] 24 (0, 0))) (lT : T < wr.heap.size) {wx : World} (hx : Below wr.heap.size wr wx) (hg : wx.grownBy w5 V.ownBlock) (bT : w5.heap[T]? = some (.cells #[a0, a1, a2] 24 (0, 0))) (e0 : a0 = .int .i64 c) (e1 : a1 = .int .i64 r)
    (hown : w5.ownsRow (T + 1) 28 1 v' (N + 1) ((trL az r c N).map iv ++ [.int .i64 (trV az r c N)])) : TRn w (w5.setCell ⟨T, 2, none⟩ v') T r c (N + 1) az A n cp := by
  subst e0 e1
  have hv : ∀ q, V.ownBlock = some q → T + 1 ≤ q := fun q e => (World.ownsRow.lt hO q e).1
  have hb5 : Below (T + 1) wx w5 := ⟨hg.os, hg.tape, hg.output, hg.size, fun k hk => hg.block k (by have := hx.size; omega) (fun e => by have := hv k e.symm; omega)⟩
  refine ⟨v', hp3_2 _ bT, ?_, ?_, hT, ?_⟩
  · rw [trL_succ, List.map_append]
    exact ownsRow_setCell_other hown (fun e => by have := (World.ownsRow.lt hown T e).1; omega) v'
  · exact ((hB.trans (hx.mono hB.size)).trans (hb5.mono (by omega))).setCell (by show w.heap.size ≤ T; omega) _
  · exact hp_set ((hb5.block _ (by omega)).trans (hp_call bM hx)) (by simp; omega) _
set_option maxHeartbeats 4000000 in
set_option maxRecDepth 100000 in
theorem vrows_main (b off : Nat) (B : Option Addr) (n cp cq r c : Nat) (az xs : List Int) (w : World) (hM : MatOk r c n) (hn : n ≤ 200) (hc : c ≤ 200) (hA : Rd w none (some ⟨b, off, none⟩) n az) (hX : Rd w none B c xs) (ha : All64 az) (hx : All64 xs) (hcp : n ≤ cp) (hcm : cp ≤ 9223372036854775807) :
    Calls Try.prog 3 #[.agg #[.int .i64 r, .int .i64 c, .slice (some ⟨b, off, none⟩) n cp], .slice B c cq] w fun e w' => e = .returned (.bool true) ∧ Below w.heap.size w w' := by
  have AW := Lib.hid (fun W => awake4_any W)
  have RI := Lib.hid (fun W => vright_ok r c (some ⟨b, off, none⟩) n cp W hM)
  have t1 : decide (n ≤ 200 ∧ c ≤ 200) = true := decide_eq_true ⟨hn, hc⟩
  have HM := Lib.hid hM
  obtain ⟨m1, m2, m3, m4, m5, m6⟩ := hM
  have hrc : n = r * c := by have : (n : Int) = ((r * c : Nat) : Int) := by rw [m6, Int.natCast_mul]
                             omega
  have HRC := Lib.hid hrc
  have hnz : 0 < n := by
    have := Nat.mul_le_mul (show 1 ≤ r by omega) (show 1 ≤ c by omega)
    omega
  have HA := Lib.hid hA
  have HX := Lib.hid hX
  clear m5 m6 hrc hA hX
  go_enter Try.func3, Try.ntmps3
  go_wp2_with (first
    | (go_at_call 13; refine (AW.out _).mono ?_; rintro e w1 ⟨rfl, hb1⟩; obtain ⟨hc1, hf1, hz1⟩ := bcell hb1; (try simp at hz1); (try have : w.heap.size < w1.heap.size := by omega); (try have : w.heap.size + 1 < w1.heap.size := by omega); (try have : w.heap.size + 1 + 1 < w1.heap.size := by omega); (try have : w.heap.size + 1 + 1 + 1 < w1.heap.size := by omega); (try have : g < w1.heap.size := by omega); (try have : ga < w1.heap.size := by omega); (try have : gb < w1.heap.size := by omega); (try have : gc < w1.heap.size := by omega); have hB : Below w.heap.size w w1 := (by repeat (first | (with_reducible exact Below.refl _ _) | (with_reducible assumption) | (with_reducible refine Below.drew ?_) | (with_reducible refine Below.alloc ?_ ?_ _) | (with_reducible refine Below.setCell ?_ ?_ _) | (with_reducible refine Below.trans ?_ (Below.mono hb ?_)) | (with_reducible refine Below.trans ?_ (Below.mono hb1 ?_)) | (with_reducible refine Below.trans ?_ (Below.mono hb2 ?_)) | (with_reducible refine Below.trans ?_ (Below.mono hb3 ?_)) | (with_reducible refine Below.trans ?_ (Below.mono hb4 ?_)) | (with_reducible refine Below.trans ?_ (Below.mono hb5 ?_)) | (with_reducible refine Below.trans ?_ (Below.mono hb6 ?_)) | (with_reducible refine Below.trans ?_ (Below.mono hb7 ?_)) | (with_reducible refine Below.trans ?_ (Below.mono hb8 ?_)) | (with_reducible refine Below.trans ?_ (Below.mono hb9 ?_)) | (focus (first | omega | (simp; done) | (simp; omega))) | exact hB)))
    | (go_at_call 14; refine (few4_two (some ⟨b, off, none⟩) B n c cp cq _ _ (by simp) (by simp)).mono ?_; rintro e w2 ⟨rfl, rfl⟩)
    | (go_at_call 15; refine (RI.out _).mono ?_; rintro e w3 ⟨rfl, hb3⟩; obtain ⟨hc3, hf3, hz3⟩ := bcell hb3; (try simp at hz3); (try have : w.heap.size < w3.heap.size := by omega); (try have : w.heap.size + 1 < w3.heap.size := by omega); (try have : w.heap.size + 1 + 1 < w3.heap.size := by omega); (try have : w.heap.size + 1 + 1 + 1 < w3.heap.size := by omega); (try have : w1.heap.size < w3.heap.size := by omega); (try have : w1.heap.size + 1 < w3.heap.size := by omega); (try have : w1.heap.size + 1 + 1 < w3.heap.size := by omega); (try have : w1.heap.size + 1 + 1 + 1 < w3.heap.size := by omega); (try have : w2.heap.size < w3.heap.size := by omega); (try have : w2.heap.size + 1 < w3.heap.size := by omega); (try have : w2.heap.size + 1 + 1 < w3.heap.size := by omega); (try have : w2.heap.size + 1 + 1 + 1 < w3.heap.size := by omega); (try have : g < w3.heap.size := by omega); (try have : ga < w3.heap.size := by omega); (try have : gb < w3.heap.size := by omega); (try have : gc < w3.heap.size := by omega); have hB : Below w.heap.size w w3 := (by repeat (first | (with_reducible exact Below.refl _ _) | (with_reducible assumption) | (with_reducible refine Below.drew ?_) | (with_reducible refine Below.alloc ?_ ?_ _) | (with_reducible refine Below.setCell ?_ ?_ _) | (with_reducible refine Below.trans ?_ (Below.mono hb ?_)) | (with_reducible refine Below.trans ?_ (Below.mono hb1 ?_)) | (with_reducible refine Below.trans ?_ (Below.mono hb2 ?_)) | (with_reducible refine Below.trans ?_ (Below.mono hb3 ?_)) | (with_reducible refine Below.trans ?_ (Below.mono hb4 ?_)) | (with_reducible refine Below.trans ?_ (Below.mono hb5 ?_)) | (with_reducible refine Below.trans ?_ (Below.mono hb6 ?_)) | (with_reducible refine Below.trans ?_ (Below.mono hb7 ?_)) | (with_reducible refine Below.trans ?_ (Below.mono hb8 ?_)) | (with_reducible refine Below.trans ?_ (Below.mono hb9 ?_)) | (focus (first | omega | (simp; done) | (simp; omega))) | exact hB))))
  have bM : w3.heap[w.heap.size]? = some (.cells #[.int .i64 r, .int .i64 c, .slice (some ⟨b, off, none⟩) n cp] 24 (0, 0)) := hp_call (hp_alloc (hp_call (heap_alloc_new w _) hb1) _) hb3
  obtain ⟨W0, hW0⟩ : ∃ W0, W0 = w3 := ⟨_, rfl⟩
  obtain rfl : W0 = w3 := hW0
  have lM := lt_of_block bM
  have p0 := cell_of_row W0 w.heap.size 0 _ _ _ bM
  have p1 := cell_of_row W0 w.heap.size 1 _ _ _ bM
  have p2 := cell_of_row W0 w.heap.size 2 _ _ _ bM
  simp only [List.getElem?_toArray, List.getElem?_cons_zero, List.getElem?_cons_succ] at p0 p1 p2
  have q0 := pack_cell p0 lM
  have q1 := pack_cell p1 lM
  have q2 := pack_cell p2 lM
  have HBM := Lib.hid bM
  have HBW := Lib.hid hB
  clear p0 p1 p2 bM hb1 hb3 hc1 hc3 hf1 hf3 hB AW RI
  refine wp_region_pack (by kernel_rfl) (by kernel_rfl) ?_
  repeat (first | go_big_quiet_skip | (go_big_quiet_want; go_big_quiet_op; first | go_big_quiet_on | (apply Exists.intro; refine ⟨fun npk => ?_, ?_⟩; (focus (first | fail)); go_big_quiet_on)))
  refine wpQuiet_nil ?_
  intro nq
  have bM1 := hp_call HBM.out nq.ok
  have BW1 := HBW.out.trans (nq.ok.mono HBW.out.size)
  have lM1 := lt_of_block bM1
  clear q0 q1 q2
  generalize nq.w = W1 at *
  go_wp2_with fail
  refine at_world fun W2 hW2 => ?_
  have HI : TRn w W2 W1.heap.size r c 0 az (some ⟨b, off, none⟩) n cp := by
    subst hW2
    exact ⟨.slice none 0 0, heap_alloc_new W1 _, World.ownsRow_nil _ _ _ _, BW1.alloc BW1.size _, lM1, hp_alloc bM1 _⟩
  clear hW2 bM1 BW1 lM1
  generalize W1.heap.size = T at *
  go_loopw [49] (fun i wr => ∃ k : Nat, k ≤ c ∧ i = .int .i64 k ∧ TRn w wr T r c (k * r) az (some ⟨b, off, none⟩) n cp) (fun i _ => c - (intOf i).toNat)
  case atStart => exact ⟨0, Nat.zero_le _, rfl, by rw [Nat.zero_mul]; exact HI⟩
  case round =>
    clear HI
    obtain ⟨k, hk, rfl, hT⟩ := hrel
    by_cases hlt : k < c
    · go_wp2_with fail
      obtain ⟨wo, hwo⟩ : ∃ wo : World, wo = wr := ⟨_, rfl⟩
      obtain rfl : wo = wr := hwo
      go_loopw [53] (fun i wr => ∃ j : Nat, j ≤ r ∧ i = .int .i64 j ∧ TRn w wr T r c (k * r + j) az (some ⟨b, off, none⟩) n cp) (fun i _ => r - (intOf i).toNat)
      case atStart => exact ⟨0, Nat.zero_le _, rfl, hT⟩
      case round =>
        clear hT
        obtain ⟨j, hj, rfl, V, bT, hO, hB, hwT, bM⟩ := hrel
        by_cases hjr : j < r
        · have lT := lt_of_block bT
          have x2 := cell_of_row wr T 2 _ _ _ bT
          simp only [List.getElem?_toArray, List.getElem?_cons_zero, List.getElem?_cons_succ] at x2
          obtain ⟨_, _, e1, l1, _, c1⟩ := (HA.out.call hB).2 hnz
          injection e1 with e1
          injection e1 with e1 e2 _
          subst e1 e2
          have hjn : j * c + k < n := by
            have h1 : (j + 1) * c ≤ r * c := Nat.mul_le_mul_right c (by omega)
            have h2 := HRC.out
            rw [Nat.succ_mul] at h1
            omega
          have hkr : k * r + r ≤ n := by
            have h1 : (k + 1) * r ≤ c * r := Nat.mul_le_mul_right r (by omega)
            have h2 := HRC.out
            rw [Nat.succ_mul, Nat.mul_comm c r] at h1
            omega
          replace c1 := c1 (j * c + k) hjn
          rw [← trV_at az r c k j hjr] at c1
          obtain ⟨q, hq⟩ : ∃ q, q = j * c := ⟨_, rfl⟩
          have hq1 : (j : Int) * (c : Int) = (q : Int) := by rw [hq, Int.natCast_mul]
          have i1 : IntKind.i64.wrap ((j : Int) * (c : Int)) = (q : Int) := by rw [hq1]; exact IntWalk.i64_in _ (by omega)
          rw [← hq] at hjn c1
          have i2 : IntKind.i64.wrap ((q : Int) + (k : Int)) = (q : Int) + (k : Int) := IntWalk.i64_in _ (by omega)
          have i3 : (0 : Int) ≤ (q : Int) + (k : Int) := by omega
          have i4 : (q : Int) + (k : Int) < (n : Int) := by omega
          have i5 : ((q : Int) + (k : Int)).toNat = q + k := by omega
          have HI0 := Lib.hid (info_parts infoFix)
          have HO := Lib.hid hO
          have HBT := Lib.hid bT
          have HBM2 := Lib.hid bM
          have HV := Lib.hid (World.ownsRow.lt hO)
          obtain ⟨N, hN⟩ : ∃ N, N = k * r + j := ⟨_, rfl⟩
          rw [← hN] at HO c1
          have HN := Lib.hid hN
          have hNs : N < 1000000 := by omega
          have hB0 := hB
          clear hO bT bM hq hq1 hN
          obtain ⟨x, hxv⟩ : ∃ x, x = trV az r c N := ⟨_, rfl⟩
          rw [← hxv] at c1
          have HXV := Lib.hid hxv
          clear hxv
          go_wp2_with fail
          go_region_law ((obtain ⟨i0, hi, yz0, yz1, yz2⟩ := HI0.out; refine step_app_one (by rfl) _ _ _ (by rfl) (T + 1) 28 i0 (.int .i64 0) Try.underlying22 hi yz0 yz1 yz2 rfl V N _ (by rfl) (HO.out.alloc _) wr.heap.size (.int .i64 x) (by rfl) (by simp) rfl hNs (by simp; omega) ?_; clear hi yz0 yz1 yz2; intro v' w5 hown5 hg5; obtain ⟨g5, c5, rfl, _⟩ := hown5.form (by omega); have bT5 := (hg5.block T (by simp; omega) (fun e => by have := (HV.out T e.symm).1; omega)).trans (hp_drew (hp_alloc HBT.out _)); have HBT5 := Lib.hid bT5; have y2 := cell_of_row w5 T 2 _ _ _ bT5; simp only [List.getElem?_toArray, List.getElem?_cons_zero, List.getElem?_cons_succ] at y2; have yf : ∀ i, w5.frozen? ⟨T, i, none⟩ = false := (fun i => by simp [World.frozen?, HBT5.out]); clear bT5))
          all_goals
            go_wp2_with fail
            go_roundw
            case rel => exact ⟨j + 1, by omega, by simp, by rw [← Nat.add_assoc, ← HN.out]; exact TRn.next HO.out hB0 hwT HBM2.out lT (by repeat (first | (with_reducible exact Below.refl _ _) | (with_reducible assumption) | (with_reducible refine Below.drew ?_) | (with_reducible refine Below.alloc ?_ ?_ _) | (with_reducible refine Below.setCell ?_ ?_ _) | (with_reducible refine Below.trans ?_ (Below.mono hb ?_)) | (with_reducible refine Below.trans ?_ (Below.mono hb1 ?_)) | (with_reducible refine Below.trans ?_ (Below.mono hb2 ?_)) | (with_reducible refine Below.trans ?_ (Below.mono hb3 ?_)) | (with_reducible refine Below.trans ?_ (Below.mono hb4 ?_)) | (with_reducible refine Below.trans ?_ (Below.mono hb5 ?_)) | (with_reducible refine Below.trans ?_ (Below.mono hb6 ?_)) | (with_reducible refine Below.trans ?_ (Below.mono hb7 ?_)) | (with_reducible refine Below.trans ?_ (Below.mono hb8 ?_)) | (with_reducible refine Below.trans ?_ (Below.mono hb9 ?_)) | (focus (first | omega | (simp; done) | (simp; omega))) | exact hB)) hg5 HBT5.out rfl rfl (by rw [← HXV.out]; exact hown5)⟩
            case measure => simp [intOf]; omega
        · obtain rfl : j = r := by omega
          have hT2 : TRn w wr T j c ((k + 1) * j) az (some ⟨b, off, none⟩) n cp := by rw [Nat.succ_mul]; exact ⟨V, bT, hO, hB, hwT, bM⟩
          clear bT hO hB hwT bM
          go_wp2_with fail
          go_roundw
          case rel => exact ⟨k + 1, by omega, by simp, hT2⟩
          case measure => simp [intOf]; omega
    · obtain rfl : k = c := by omega
      obtain ⟨V, bT, hO, hB, hwT, bM⟩ := hT
      obtain ⟨A5, c5, rfl, rd5⟩ := OwnF.offS' hO (trL_len _ _ _ _)
      have p0 := cell_of_row wr w.heap.size 0 _ _ _ bM
      have p1 := cell_of_row wr w.heap.size 1 _ _ _ bM
      have p2 := cell_of_row wr w.heap.size 2 _ _ _ bM
      simp only [List.getElem?_toArray, List.getElem?_cons_zero, List.getElem?_cons_succ] at p0 p1 p2
      have HBT := Lib.hid bT
      clear bT hO bM
      have rdA := HA.out.call hB
      have rdX := HX.out.call hB
      have lT := lt_of_block HBT.out
      go_wp2_with fail
      refine (matvec_any (.pointer none) none 0 r k (some ⟨b, off, none⟩) B n cp cq az xs wr HM.out rdA rdX ha hx (Unt.nil _ _) (by omega) (by omega)).mono ?_
      rintro e w6 ⟨V6, rfl, hO6, hG6, hU6⟩
      have hb6 := gr_none hG6
      obtain ⟨A6, c6, rfl, rd6⟩ := OwnF.offS' (own_row hO6) (rowI_length _ _)
      have bT6 := hp_call HBT.out hb6
      have t0 := cell_of_row w6 T 0 _ _ _ bT6
      have t1' := cell_of_row w6 T 1 _ _ _ bT6
      have t2 := cell_of_row w6 T 2 _ _ _ bT6
      simp only [List.getElem?_toArray, List.getElem?_cons_zero, List.getElem?_cons_succ] at t0 t1' t2
      have hM2 : MatOk k r (k * r) := by
        obtain ⟨a1, a2, a3, a4, a5, a6⟩ := HM.out
        have e : (k : Int) * r = r * k := Int.mul_comm _ _
        exact ⟨a2, a1, a4, a3, by rw [e]; exact a5, by rw [Int.natCast_mul]⟩
      have HM2 := Lib.hid hM2
      have rdX6 := rdX.call hb6
      have rd56 := rd5.call hb6
      have BW6 := hB.trans (hb6.mono hB.size)
      clear hG6 hU6 hO6 hM2 bT6 p0 p1 p2 rd5 hB
      go_wp2_with fail
      refine (vecmat_any (.pointer none) none 0 k r A5 B (k * r) c5 cq (trL az r k (k * r)) xs w6 HM2.out rd56 rdX6 (trL_all ha _ _ _) hx (Unt.nil _ _) (by omega) (by omega)).mono ?_
      rintro e w7 ⟨V7, rfl, hO7, hG7, hU7⟩
      have hb7 := gr_none hG7
      rw [show rowI (vmV xs (trL az r k (k * r)) k r) r = rowI (mvV xs az k) r from rowI_congr fun j hj => turned_same j hj] at hO7
      obtain ⟨A7, c7, rfl, rd7⟩ := OwnF.offS' (own_row hO7) (rowI_length _ _)
      have BW7 := BW6.trans (hb7.mono BW6.size)
      have rd67 := rd6.call hb7
      have rdA7 := HA.out.call BW7
      have rdX7 := HX.out.call BW7
      have HR6 := Lib.hid rd67
      have HR7 := Lib.hid rd7
      have HA7 := Lib.hid rdA7
      have HX7 := Lib.hid rdX7
      clear hG7 hU7 hO7 t0 t1' t2 rd67 rd7 rdA7 rdX7 rdX6 rd56 rdA rdX rd6 hb7 hb6 BW6
      go_wp2_with fail
      go_loopw [103] (fun i wr => ∃ j : Nat, j ≤ r ∧ i = .int .i64 j ∧ Below w7.heap.size w7 wr) (fun i _ => r - (intOf i).toNat)
      case atStart => exact ⟨0, Nat.zero_le _, rfl, Below.refl _ _⟩
      case round =>
        obtain ⟨j, hj, rfl, hB⟩ := hrel
        by_cases hjr : j < r
        · obtain ⟨b6, o6, rfl, l6, _, c6'⟩ := (HR6.out.call hB).2 (by omega)
          obtain ⟨b7, o7, rfl, l7, _, c7'⟩ := (HR7.out.call hB).2 (by omega)
          replace c6' := c6' j hjr
          replace c7' := c7' j hjr
          rw [rowI_get _ hjr] at c6' c7'
          have ia : (0 : Int) ≤ (j : Int) := by omega
          have ib : (j : Int) < (r : Int) := by omega
          have hjn : j * k + k ≤ n := by
            have h1 : (j + 1) * k ≤ r * k := Nat.mul_le_mul_right k (by omega)
            have h2 := HRC.out
            rw [Nat.succ_mul] at h1
            omega
          have DO := Lib.hid (fun cq' W h1 h2 => vdot_any (.pointer none) none 0 (some ⟨b, off + j * k, none⟩) B k cq' cq ((az.drop (j * k)).take k) xs W (by omega) h1 h2 (part_all ha _ _) hx (Unt.nil _ _) (by omega) (by omega))
          rw [part_dot] at DO
          have HP := Lib.hid (fun W hb => rd_part ((HA7.out.call hb : Rd W none (some ⟨b, off, none⟩) n az)) (j * k) k hjn hnz)
          obtain ⟨q, hq⟩ : ∃ q, q = j * k := ⟨_, rfl⟩
          have hq1 : (j : Int) * (k : Int) = (q : Int) := by rw [hq, Int.natCast_mul]
          rw [← hq] at DO HP hjn
          have i1 : IntKind.i64.wrap ((j : Int) * (k : Int)) = (q : Int) := by rw [hq1]; exact IntWalk.i64_in _ (by omega)
          have i2 : IntKind.i64.wrap ((q : Int) + (k : Int)) = (q : Int) + (k : Int) := IntWalk.i64_in _ (by omega)
          have i3 : (q : Int) + (k : Int) ≤ (cp : Int) := by omega
          clear hq
          generalize clampI (mvV xs az k j) = v at *
          go_wp2_with (go_at_call 18; refine (DO.out _ _ (HP.out _ hB) (HX7.out.call hB)).mono ?_; rintro e y1 ⟨rfl, hg1, hU1⟩; have hb1 := gr_none hg1; obtain ⟨hc1, hf1, hz1⟩ := bcell hb1; clear hg1 hU1)
          go_roundw
          case rel => exact ⟨j + 1, by omega, by simp, hB.trans (hb1.mono hB.size)⟩
          case measure => simp [intOf]; omega
        · go_wp2_with fail
          go_ret
          exact ⟨rfl, BW7.trans (hB.mono BW7.size)⟩
theorem vecRows_walk (r c : Int) (A : Option Addr) (n cp : Nat) (az : List Int) (B : Option Addr) (m cq : Nat) (xs : List Int) (w : World) (i0 : In64 r ∧ In64 c ∧ (n ≤ cp ∧ cp ≤ 9223372036854775807) ∧ Row64 w A n az) (i1 : Row64 w B m xs) :
    Calls Try.prog 3 #[.agg #[.int .i64 r, .int .i64 c, .slice A n cp], .slice B m cq] w fun e w' => e = .returned (.bool true) ∧ Below w.heap.size w w' := by
  by_cases h : (n ≤ 200 ∧ m ≤ 200) ∧ MatOk r c n ∧ (m : Int) = c
  · obtain ⟨⟨h1, h2⟩, hM, rfl⟩ := h
    obtain ⟨_, _, ⟨hcp, hcm⟩, hA, ha⟩ := i0
    obtain ⟨r', rfl⟩ := Int.eq_ofNat_of_zero_le (show 0 ≤ r by have := hM.1; omega)
    have hn : 0 < n := by
      obtain ⟨a1, a2, _, _, _, a6⟩ := hM
      have := Int.mul_le_mul a1 a2 (by omega) (by omega)
      omega
    obtain ⟨b, off, rfl, _⟩ := hA.2 hn
    exact vrows_main b off B n cp cq r' m az xs w hM h1 h2 hA i1.1 ha i1.2 hcp hcm
  · exact vrows_out r c A B n cp m cq w h
end Go.Proofs.Ytikjomekhnkgcaa
