import Derived.Test.YtfpeekdjdapcdaaC7
/- What the laws of chapter 8 make of rates; the chapter's examples. -/
namespace Go.Proofs.Ytfpeekdjdapcdaa
open Go.RowKit
attribute [local go_sem ↓] Go.wp_at_zero Go.wp_at_succ

theorem app_two {P : Program} {ops : Array Oper} {rest : List Oper} {o : Oper} {a : Act} {Q : Exit → Act → World → Prop} (hgd : o.guard = none) (s x : Operand) (t : TypeId)
    (ho : o.op = .call { callee := .builtin .append, args := #[s, x], argTypes := #[t, t] })
    (e : TypeId) (i : TypeInfo) (z : Value) (ht : P.underlying t = some (.slice e)) (hi : P.info? e = some i) (hz : i.zero = some z) (hsize : i.size = 2) (hby : i.bytes = 16) (hzs : z.cells.size = 2)
    {B : Nat} {wr : World} (hB : B ≤ wr.heap.size) (v : Value) (n : Nat) (xs : List Value) (hs : a.eval s = v) (hown : wr.ownsRow B e 2 v n xs)
    (u0 u1 : Value) (hx : a.eval x = .slice (some ⟨wr.heap.size, 0, none⟩) 1 1) (h0 : u0.oneCell' = true) (h1 : u1.oneCell' = true) (hn : n < 1000000) (E : TypeId)
    (h : ∀ v' w', w'.ownsRow B e 2 v' (n + 1) (xs ++ [u0, u1]) → Below B wr w' → wpList P ops Q rest (a.put o.dst v') w') :
    wpList P ops Q (o :: rest) a (wr.alloc (.cells #[u0, u1] E)) := by
  refine wpList_append_own _ hgd s x t ho B e i z 2 16 ht hi hz hsize hby hzs (by decide) v n xs hs (hown.alloc _) ⟨wr.heap.size, 0, none⟩ 1 1 [u0, u1] hx rfl ?_ ?_ (by unfold maxLen; omega) (by omega) (by simp; omega) ?_
  · intro j u' hj
    match j, hj with
    | 0, hj =>
      simp at hj; subst hj
      rw [show (⟨wr.heap.size, 0, none⟩ : Addr).add 0 = ⟨wr.heap.size, 0, none⟩ by simp [Addr.add]]
      rw [World.cell?_alloc_at _ _ _ _ rfl]; rfl
    | 1, hj =>
      simp at hj; subst hj
      rw [show (⟨wr.heap.size, 0, none⟩ : Addr).add 1 = ⟨wr.heap.size, 1, none⟩ by simp [Addr.add]]
      rw [World.cell?_alloc_at _ _ _ _ rfl]; rfl
    | j + 2, hj => simp at hj
  · intro u' hu
    simp at hu
    rcases hu with rfl | rfl
    · exact h0
    · exact h1
  · intro v' w' hown' hgrow _
    exact h v' w' hown' (((Below.refl B wr).alloc (by omega) _).grown hgrow (by simp; omega) (fun j hj => (hown.lt j hj).1))
theorem infoDrop : (Try.prog.info? 61).map (fun i => (i.zero, i.size, i.bytes)) = some (some (.agg #[.int .i64 0, .int .i64 0]), 2, 16) := by kernel_rfl
theorem app_drop {ops : Array Oper} {rest : List Oper} {o : Oper} {a : Act} {Q : Exit → Act → World → Prop} {s x : Operand}
    {B : Nat} {wr : World} (hB : B ≤ wr.heap.size) {v : Value} {n : Nat} {xs : List Value} (hown : wr.ownsRow B 61 2 v n xs) (hn : n < 1000000)
    (hgd : o.guard = none) (ho : o.op = .call { callee := .builtin .append, args := #[s, x], argTypes := #[27, 27] })
    (hs : a.eval s = v) (u0 u1 : Value) (hx : a.eval x = .slice (some ⟨wr.heap.size, 0, none⟩) 1 1) (h0 : u0.oneCell' = true) (h1 : u1.oneCell' = true) {E : TypeId}
    (h : ∀ v' w', w'.ownsRow B 61 2 v' (n + 1) (xs ++ [u0, u1]) → Below B wr w' → wpList Try.prog ops Q rest (a.put o.dst v') w') :
    wpList Try.prog ops Q (o :: rest) a (wr.alloc (.cells #[u0, u1] E)) := by
  obtain ⟨i0, hi, hz0, hz1, hz2⟩ := info_parts infoDrop
  exact app_two hgd s x 27 ho 61 i0 (.agg #[.int .i64 0, .int .i64 0]) Try.underlying27 hi hz0 hz1 hz2 rfl hB v n xs hs hown u0 u1 hx h0 h1 hn E h
/-- The cells of drops, one after another. -/
def flat (ta fa : Nat → Int) : Nat → List Value
  | 0 => []
  | k + 1 => flat ta fa k ++ [.int .i64 (ta k), .int .i64 (fa k)]
theorem flat_length (ta fa : Nat → Int) (k : Nat) : (flat ta fa k).length = k * 2 := by
  induction k with
  | zero => rfl
  | succ i ih => simp [flat, ih]; omega
theorem flat_get (ta fa : Nat → Int) {k j : Nat} (h : j < k) : (flat ta fa k)[j * 2]? = some (.int .i64 (ta j)) ∧ (flat ta fa k)[j * 2 + 1]? = some (.int .i64 (fa j)) := by
  induction k with
  | zero => omega
  | succ i ih =>
    have hl := flat_length ta fa i
    unfold flat
    rcases Nat.lt_or_ge j i with h1 | h1
    · rw [List.getElem?_append_left (by omega), List.getElem?_append_left (by omega)]
      exact ih h1
    · obtain rfl : j = i := by omega
      rw [List.getElem?_append_right (by omega), List.getElem?_append_right (by omega), hl]
      simp
theorem flat_rd {B : Nat} {w : World} {E : TypeId} {v : Value} {k : Nat} {ta fa : Nat → Int} (h : w.ownsRow B E 2 v k (flat ta fa k)) : ∃ A c, v = .slice A k c ∧ RdD w A k ta fa := by
  rcases Nat.eq_zero_or_pos k with h0 | h0
  · subst h0
    rcases h.2 with ⟨rfl, _⟩ | ⟨g, cap, cur, rfl, _⟩
    · exact ⟨none, 0, rfl, fun h => absurd h (by omega)⟩
    · exact ⟨_, cap, rfl, fun h => absurd h (by omega)⟩
  · obtain ⟨g, cap, rfl, hg, hlt⟩ := h.form h0
    refine ⟨_, cap, rfl, fun _ => ⟨g, 0, rfl, hlt, fun j hj => ?_⟩⟩
    obtain ⟨f0, f1⟩ := flat_get ta fa hj
    have c0 := h.cells (g := g) rfl (j * 2) _ f0
    have c1 := h.cells (g := g) rfl (j * 2 + 1) _ f1
    rw [show (⟨g, 0, none⟩ : Addr).add (j * 2) = ⟨g, 0 + j * 2, none⟩ by unfold Addr.add; split <;> simp_all] at c0
    rw [show (⟨g, 0, none⟩ : Addr).add (j * 2 + 1) = ⟨g, 0 + j * 2 + 1, none⟩ by unfold Addr.add; split <;> simp_all] at c1
    exact ⟨c0, c1⟩
/-- What stands behind k drops. -/
def LRt (w wr : World) (R X : Nat) (base warm : Int) (ta fa : Nat → Int) (k : Nat) : Prop :=
  ∃ V, wr.heap[X]? = some (.cells #[.int .i64 base, .int .i64 warm, V] 29 (0, 0)) ∧ wr.ownsRow (X + 1) 61 2 V k (flat ta fa k) ∧ Below w.heap.size w wr ∧
    wr.heap[R]? = some (.cells #[.int .i64 0, .int .i64 0, .slice none 0 0] 29 (0, 0)) ∧ w.heap.size ≤ R ∧ R < X
theorem LRt.next {w wr w3 : World} {R X : Nat} {base warm : Int} {ta fa : Nat → Int} {k : Nat} {o : Obj} {v V : Value} (hV : wr.heap[X]? = some (.cells #[.int .i64 base, .int .i64 warm, V] 29 (0, 0))) (hR : wr.heap[R]? = some (.cells #[.int .i64 0, .int .i64 0, .slice none 0 0] 29 (0, 0)))
    (hB : Below w.heap.size w wr) (h1 : w.heap.size ≤ R) (h2 : R < X) (hown : w3.ownsRow (X + 1) 61 2 v (k + 1) (flat ta fa k ++ [.int .i64 (ta k), .int .i64 (fa k)])) (hb : Below (X + 1) (wr.alloc o) w3) :
    LRt w (w3.setCell ⟨X, 2, none⟩ v) R X base warm ta fa (k + 1) := by
  refine ⟨v, ?_, ownsRow_setCell_other hown (fun e => by have := (World.ownsRow.lt hown X e).1; omega) v, ?_, ?_, h1, h2⟩
  · exact hp3_2 v ((hb.block X (by omega)).trans (hp_alloc hV o))
  · exact ((hB.alloc hB.size o).trans (hb.mono (by omega))).setCell (by show w.heap.size ≤ X; omega) _
  · exact hp_set ((hb.block R (by omega)).trans (hp_alloc hR o)) (by simp; omega) _
def GotRt (w : World) (base warm : Int) (m : Nat) (ta fa : Nat → Int) (e : Ending) (w' : World) : Prop :=
  ∃ A' c', e = .returned (.agg #[.int .i64 base, .int .i64 warm, .slice A' m c']) ∧ RdD w' A' m ta fa ∧ Below w.heap.size w w'
set_option maxHeartbeats 2000000 in
theorem lrates_any (base warm : Int) (A : Option Addr) (m cp : Nat) (ta fa : Nat → Int) (w : World) (hA : RdD w A m ta fa) (hm : m ≤ 1000) :
    Calls Try.prog 11 #[.agg #[.int .i64 base, .int .i64 warm, .slice A m cp]] w (GotRt w base warm m ta fa) := by
  have HA := Lib.hid hA
  clear hA
  go_enter Try.func11, Try.ntmps11
  go_wp2_with fail
  refine at_world fun W1 hW1 => ?_
  have HI : LRt w W1 (w.heap.size + 1) (w.heap.size + 1 + 1) base warm ta fa 0 := by
    subst hW1
    exact ⟨.slice none 0 0, newest_at _ _ (by simp), World.ownsRow_nil _ _ _ _, (by repeat (first | (with_reducible exact Below.refl _ _) | (with_reducible assumption) | (with_reducible refine Below.drew ?_) | (with_reducible refine Below.alloc ?_ ?_ _) | (with_reducible refine Below.setCell ?_ ?_ _) | (with_reducible refine Below.trans ?_ (Below.mono hb ?_)) | (with_reducible refine Below.trans ?_ (Below.mono hb1 ?_)) | (with_reducible refine Below.trans ?_ (Below.mono hb2 ?_)) | (with_reducible refine Below.trans ?_ (Below.mono hb3 ?_)) | (with_reducible refine Below.trans ?_ (Below.mono hb4 ?_)) | (with_reducible refine Below.trans ?_ (Below.mono hb5 ?_)) | (with_reducible refine Below.trans ?_ (Below.mono hb6 ?_)) | (with_reducible refine Below.trans ?_ (Below.mono hb7 ?_)) | (with_reducible refine Below.trans ?_ (Below.mono hb8 ?_)) | (with_reducible refine Below.trans ?_ (Below.mono hb9 ?_)) | (focus (first | omega | (simp; done) | (simp; omega))) | exact hB)), hp_alloc (newest_at _ _ (by simp)) _, by omega, by omega⟩
  have z1 : w.heap.size + 1 + 1 < W1.heap.size := by subst hW1; simp
  clear hW1
  generalize hX : w.heap.size + 1 + 1 = X at *
  generalize hR : w.heap.size + 1 = R at *
  have HX := Lib.hid hX
  have HR := Lib.hid hR
  clear hX hR
  go_loopw [14] (fun i wr => ∃ k : Nat, k ≤ m ∧ i = .int .i64 k ∧ LRt w wr R X base warm ta fa k) (fun i _ => m - (intOf i).toNat)
  case atStart => exact ⟨0, Nat.zero_le _, rfl, HI⟩
  case round =>
    clear HI z1
    obtain ⟨k, hk, rfl, V, bX, hO, hB, bR, h1, h2⟩ := hrel
    have lX := lt_of_block bX
    have lR := lt_of_block bR
    by_cases hlt : k < m
    · obtain ⟨b, off, rfl, hb, hc⟩ := (HA.out.call hB) (by omega)
      obtain ⟨e1, e2⟩ := hc k hlt
      have ia : (0 : Int) ≤ (k : Int) := by omega
      have ib : (k : Int) < (m : Int) := by omega
      have x2 := cell_of_row wr X 2 _ _ _ bX
      simp only [List.getElem?_toArray, List.getElem?_cons_zero, List.getElem?_cons_succ] at x2
      have HBX := Lib.hid bX
      have HBR := Lib.hid bR
      have HO := Lib.hid hO
      clear hc bX bR hO
      go_wp2_with (at_builtin; refine app_drop (B := X + 1) (wr := wr.alloc (.cells #[.int .i64 (ta k), .int .i64 (fa k)] 59)) (by simp; omega) (HO.out.alloc _) (by omega) rfl rfl rfl _ _ (by simp [Act.eval]) rfl rfl ?_; intro v' w3 hown3 hb3; obtain ⟨g3, c3, rfl, hg3⟩ := hown3.form (by omega); have bX3 := (hb3.block X (by omega)).trans (hp_alloc HBX.out _); have HBX3 := Lib.hid bX3; have y2 := cell_of_row w3 X 2 _ _ _ bX3; simp only [List.getElem?_toArray, List.getElem?_cons_zero, List.getElem?_cons_succ] at y2; have yf : ∀ i, w3.frozen? ⟨X, i, none⟩ = false := (fun i => by simp [World.frozen?, HBX3.out]); clear bX3)
      go_roundw
      case rel => exact ⟨k + 1, by omega, by simp, LRt.next HBX.out HBR.out hB h1 h2 hown3 hb3⟩
      case measure => simp [intOf]; omega
    · obtain rfl : k = m := by omega
      obtain ⟨A', c', rfl, _⟩ := flat_rd hO
      have x0 := cell_of_row wr X 0 _ _ _ bX
      have x1 := cell_of_row wr X 1 _ _ _ bX
      have x2 := cell_of_row wr X 2 _ _ _ bX
      have r0 := cell_of_row wr R 0 _ _ _ bR
      have r1 := cell_of_row wr R 1 _ _ _ bR
      have r2 := cell_of_row wr R 2 _ _ _ bR
      simp only [List.getElem?_toArray, List.getElem?_cons_zero, List.getElem?_cons_succ] at x0 x1 x2 r0 r1 r2
      have rf : ∀ i, wr.frozen? ⟨R, i, none⟩ = false := fun i => by simp [World.frozen?, bR]
      have q : ∀ (w1 : World) (i : Nat) (u : Value), w1.ownsRow (X + 1) 61 2 (.slice A' k c') k (flat ta fa k) → (w1.setCell ⟨R, i, none⟩ u).ownsRow (X + 1) 61 2 (.slice A' k c') k (flat ta fa k) := fun w1 i u h => ownsRow_setCell_other h (fun e => by have := (World.ownsRow.lt h R e).1; omega) u
      have hq := q _ 2 (.slice A' k c') (q _ 1 (.int .i64 warm) (q _ 0 (.int .i64 base) hO))
      obtain ⟨A2, c2, e2, hr⟩ := flat_rd hq
      injection e2 with e2 _ e3
      subst e2 e3
      have BE := ((hB.setCell (p := ⟨R, 0, none⟩) (by show w.heap.size ≤ R; omega) (.int .i64 base)).setCell (p := ⟨R, 1, none⟩) (by show w.heap.size ≤ R; omega) (.int .i64 warm)).setCell (p := ⟨R, 2, none⟩) (by show w.heap.size ≤ R; omega) (.slice A' k c')
      clear hq q hO bX bR
      go_wp2_with fail
      exact bodyPost_ret (v := .agg #[.int .i64 base, .int .i64 warm, .slice A' k c']) (by simp [*, results, Try.results11, go_sem]) rfl ⟨_, _, rfl, hr, BE⟩

/-! ### the chapter's examples -/
theorem rd_one5 {w : World} {g : Nat} {T : TypeId} {a b c e : Int} {A : Option Addr} {l cp : Nat} (h : w.heap[g]? = some (.cells #[.int .i64 a, .int .i64 b, .int .i64 c, .slice A l cp, .int .i64 e] T (0, 0))) :
    RdE w (some ⟨g, 0, none⟩) 1 (fun _ => a) (fun _ => b) (fun _ => c) (fun _ => e) (fun _ => A) (fun _ => l) (fun _ => cp) := fun _ => by
  refine ⟨g, 0, rfl, lt_of_block h, fun j hj => ?_⟩
  obtain rfl : j = 0 := by omega
  simp [World.cell?, h]
set_option maxHeartbeats 1000000 in
theorem awake8_any (w : World) : Calls Try.prog 10 #[] w fun e w' => e = .returned (.bool true) ∧ Below w.heap.size w w' := by
  have hR0 : ∀ W : World, RdD W none 0 (fun _ => 0) (fun _ => 0) := fun W h => absurd h (by omega)
  have RA := Lib.hid (fun W => srate_any 4294967296 4 none 0 0 (fun _ => 0) (fun _ => 0) 3 W (hR0 W) (fun j => by show In64 0 ∧ In64 0; unfold In64; omega) ⟨by omega, fun j hj => absurd hj (by omega)⟩ (by unfold In64; omega) (by omega) (by omega))
  rw [show rateI 4294967296 4 0 (fun _ => 0) (fun _ => 0) 3 = 3221225472 by decide] at RA
  have PO := Lib.hid (fun W => spower_any 2147483648 3 W (by omega) (by omega) (by omega))
  rw [show powI 2147483648 3 = 536870912 by decide] at PO
  have hp : PaceOk 2 8 4 1 := by unfold PaceOk; omega
  have ST := Lib.hid (fun A cp wa wc W hE => ssteps_any 2 8 4 1 A 1 cp (fun _ => 0) (fun _ => 0) (fun _ => 1) (fun _ => 0) wa (fun _ => 1) wc W hp hE (fun j => by show In64 1 ∧ 1 ≤ 9223372036854775807; unfold In64; omega) (by omega) (fun j _ => by simp))
  rw [show stepsI 2 8 1 4 (misI (fun _ => 1) (fun _ => 1)) 1 = 5 by decide] at ST
  clear hp hR0
  go_enter Try.func10, Try.ntmps10
  go_wp2_with (first
    | (go_at_call 12; refine (RA.out _).mono ?_; rintro e w1 ⟨rfl, hb1⟩; obtain ⟨hc1, hf1, hz1⟩ := bcell hb1; (try simp at hz1); (try have : w.heap.size < w1.heap.size := by omega); (try have : w.heap.size + 1 < w1.heap.size := by omega); (try have : w.heap.size + 1 + 1 < w1.heap.size := by omega); (try have : w.heap.size + 1 + 1 + 1 < w1.heap.size := by omega); (try have : g < w1.heap.size := by omega); (try have : ga < w1.heap.size := by omega); (try have : gb < w1.heap.size := by omega); (try have : gc < w1.heap.size := by omega); have hB : Below w.heap.size w w1 := (by repeat (first | (with_reducible exact Below.refl _ _) | (with_reducible assumption) | (with_reducible refine Below.drew ?_) | (with_reducible refine Below.alloc ?_ ?_ _) | (with_reducible refine Below.setCell ?_ ?_ _) | (with_reducible refine Below.trans ?_ (Below.mono hb ?_)) | (with_reducible refine Below.trans ?_ (Below.mono hb1 ?_)) | (with_reducible refine Below.trans ?_ (Below.mono hb2 ?_)) | (with_reducible refine Below.trans ?_ (Below.mono hb3 ?_)) | (with_reducible refine Below.trans ?_ (Below.mono hb4 ?_)) | (with_reducible refine Below.trans ?_ (Below.mono hb5 ?_)) | (with_reducible refine Below.trans ?_ (Below.mono hb6 ?_)) | (with_reducible refine Below.trans ?_ (Below.mono hb7 ?_)) | (with_reducible refine Below.trans ?_ (Below.mono hb8 ?_)) | (with_reducible refine Below.trans ?_ (Below.mono hb9 ?_)) | (focus (first | omega | (simp; done) | (simp; omega))) | exact hB)))
    | (go_at_call 20; refine (PO.out _).mono ?_; rintro e w2 ⟨rfl, hb2⟩; obtain ⟨hc2, hf2, hz2⟩ := bcell hb2; (try simp at hz2); (try have : w.heap.size < w2.heap.size := by omega); (try have : w.heap.size + 1 < w2.heap.size := by omega); (try have : w.heap.size + 1 + 1 < w2.heap.size := by omega); (try have : w.heap.size + 1 + 1 + 1 < w2.heap.size := by omega); (try have : w1.heap.size < w2.heap.size := by omega); (try have : w1.heap.size + 1 < w2.heap.size := by omega); (try have : w1.heap.size + 1 + 1 < w2.heap.size := by omega); (try have : w1.heap.size + 1 + 1 + 1 < w2.heap.size := by omega); (try have : g < w2.heap.size := by omega); (try have : ga < w2.heap.size := by omega); (try have : gb < w2.heap.size := by omega); (try have : gc < w2.heap.size := by omega); have hB : Below w.heap.size w w2 := (by repeat (first | (with_reducible exact Below.refl _ _) | (with_reducible assumption) | (with_reducible refine Below.drew ?_) | (with_reducible refine Below.alloc ?_ ?_ _) | (with_reducible refine Below.setCell ?_ ?_ _) | (with_reducible refine Below.trans ?_ (Below.mono hb ?_)) | (with_reducible refine Below.trans ?_ (Below.mono hb1 ?_)) | (with_reducible refine Below.trans ?_ (Below.mono hb2 ?_)) | (with_reducible refine Below.trans ?_ (Below.mono hb3 ?_)) | (with_reducible refine Below.trans ?_ (Below.mono hb4 ?_)) | (with_reducible refine Below.trans ?_ (Below.mono hb5 ?_)) | (with_reducible refine Below.trans ?_ (Below.mono hb6 ?_)) | (with_reducible refine Below.trans ?_ (Below.mono hb7 ?_)) | (with_reducible refine Below.trans ?_ (Below.mono hb8 ?_)) | (with_reducible refine Below.trans ?_ (Below.mono hb9 ?_)) | (focus (first | omega | (simp; done) | (simp; omega))) | exact hB)))
    | (go_at_call 16; refine (ST.out _ _ _ _ _ (rd_one5 (by first | exact heap_alloc_new _ _ | exact newest_at _ _ (by simp)))).mono ?_; rintro e w3 ⟨rfl, hb3⟩; obtain ⟨hc3, hf3, hz3⟩ := bcell hb3; (try simp at hz3); (try have : w.heap.size < w3.heap.size := by omega); (try have : w.heap.size + 1 < w3.heap.size := by omega); (try have : w.heap.size + 1 + 1 < w3.heap.size := by omega); (try have : w.heap.size + 1 + 1 + 1 < w3.heap.size := by omega); (try have : w1.heap.size < w3.heap.size := by omega); (try have : w1.heap.size + 1 < w3.heap.size := by omega); (try have : w1.heap.size + 1 + 1 < w3.heap.size := by omega); (try have : w1.heap.size + 1 + 1 + 1 < w3.heap.size := by omega); (try have : w2.heap.size < w3.heap.size := by omega); (try have : w2.heap.size + 1 < w3.heap.size := by omega); (try have : w2.heap.size + 1 + 1 < w3.heap.size := by omega); (try have : w2.heap.size + 1 + 1 + 1 < w3.heap.size := by omega); (try have : g < w3.heap.size := by omega); (try have : ga < w3.heap.size := by omega); (try have : gb < w3.heap.size := by omega); (try have : gc < w3.heap.size := by omega); have hB : Below w.heap.size w w3 := (by repeat (first | (with_reducible exact Below.refl _ _) | (with_reducible assumption) | (with_reducible refine Below.drew ?_) | (with_reducible refine Below.alloc ?_ ?_ _) | (with_reducible refine Below.setCell ?_ ?_ _) | (with_reducible refine Below.trans ?_ (Below.mono hb ?_)) | (with_reducible refine Below.trans ?_ (Below.mono hb1 ?_)) | (with_reducible refine Below.trans ?_ (Below.mono hb2 ?_)) | (with_reducible refine Below.trans ?_ (Below.mono hb3 ?_)) | (with_reducible refine Below.trans ?_ (Below.mono hb4 ?_)) | (with_reducible refine Below.trans ?_ (Below.mono hb5 ?_)) | (with_reducible refine Below.trans ?_ (Below.mono hb6 ?_)) | (with_reducible refine Below.trans ?_ (Below.mono hb7 ?_)) | (with_reducible refine Below.trans ?_ (Below.mono hb8 ?_)) | (with_reducible refine Below.trans ?_ (Below.mono hb9 ?_)) | (focus (first | omega | (simp; done) | (simp; omega))) | exact hB))))
  go_ret
  exact ⟨rfl, (by repeat (first | (with_reducible exact Below.refl _ _) | (with_reducible assumption) | (with_reducible refine Below.drew ?_) | (with_reducible refine Below.alloc ?_ ?_ _) | (with_reducible refine Below.setCell ?_ ?_ _) | (with_reducible refine Below.trans ?_ (Below.mono hb ?_)) | (with_reducible refine Below.trans ?_ (Below.mono hb1 ?_)) | (with_reducible refine Below.trans ?_ (Below.mono hb2 ?_)) | (with_reducible refine Below.trans ?_ (Below.mono hb3 ?_)) | (with_reducible refine Below.trans ?_ (Below.mono hb4 ?_)) | (with_reducible refine Below.trans ?_ (Below.mono hb5 ?_)) | (with_reducible refine Below.trans ?_ (Below.mono hb6 ?_)) | (with_reducible refine Below.trans ?_ (Below.mono hb7 ?_)) | (with_reducible refine Below.trans ?_ (Below.mono hb8 ?_)) | (with_reducible refine Below.trans ?_ (Below.mono hb9 ?_)) | (focus (first | omega | (simp; done) | (simp; omega))) | exact hB))⟩
end Go.Proofs.Ytfpeekdjdapcdaa
