import Derived.Test.YtikjomekhnkgcaaM1
import Derived.Test.YtikjomekhnkgcaaE3
/- The law VecMeans, walked. -/
namespace Go.Proofs.Ytikjomekhnkgcaa
open Go.RowKit
attribute [local go_sem ↓] Go.wp_at_zero Go.wp_at_succ

/-- The first that is not so. -/
theorem first_not {P : Nat → Prop} {m : Nat} (h : ¬ ∀ k, k < m → P k) : ∃ k0, k0 < m ∧ ¬ P k0 ∧ ∀ k, k < k0 → P k := by
  induction m with
  | zero => exact absurd (fun k hk => absurd hk (by omega)) h
  | succ n ih =>
    by_cases hn : ∀ k, k < n → P k
    · refine ⟨n, by omega, fun hp => h fun k hk => ?_, hn⟩
      by_cases e : k = n
      · subst e; exact hp
      · exact hn k (by omega)
    · obtain ⟨k0, h1, h2, h3⟩ := ih hn
      exact ⟨k0, by omega, h2, h3⟩
theorem few_none (A : Option Addr) (cp : Nat) (w : World) :
    Calls Try.prog 14 #[.slice A 0 cp] w fun e w' => e = .returned (.bool true) ∧ w = w' := by
  go_enter Try.func14, Try.ntmps14
  go_wp2_with fail
  refine wp_loop_rounds 1 ?_
  rw [rounds_succ]
  go_wp2_with fail
  go_ret
  exact ⟨rfl, rfl⟩
theorem infoRow64 : (Try.prog.info? 44).map (fun i => (i.zero, i.size, i.bytes)) = some (some (.slice none 0 0), 1, 24) := by kernel_rfl
/-- A row appended to rows. -/
theorem app_rows {ops : Array Oper} {rest : List Oper} {o : Oper} {a : Act} {Q : Exit → Act → World → Prop} {s x : Operand}
    {B : Nat} {wr : World} (hB : B ≤ wr.heap.size) {v : Value} {n : Nat} {xs : List Value} (hown : wr.ownsRow B 44 1 v n xs) (hn : n < 1000000)
    (hgd : o.guard = none) (ho : o.op = .call { callee := .builtin .append, args := #[s, x], argTypes := #[72, 72] })
    (hs : a.eval s = v) (u : Value) (hx : a.eval x = .slice (some ⟨wr.heap.size, 0, none⟩) 1 1) (h1 : u.oneCell' = true) {E : TypeId}
    (h : ∀ v' w', w'.ownsRow B 44 1 v' (n + 1) (xs ++ [u]) → (wr.alloc (.cells #[u] E)).grownBy w' v.ownBlock → (v'.ownBlock = v.ownBlock ∨ v'.ownBlock = some (wr.heap.size + 1)) → wpList Try.prog ops Q rest (a.put o.dst v') w') :
    wpList Try.prog ops Q (o :: rest) a (wr.alloc (.cells #[u] E)) := by
  obtain ⟨i0, hi, hz0, hz1, hz2⟩ := info_parts infoRow64
  have hw : Region.wanted o (yielded ops a.tmps) = true := by simp [Region.wanted, hgd]
  obtain ⟨v', w', hrun, h2, h3, _, h5⟩ := run_append_own_at (P := Try.prog) (w := wr.alloc (.cells #[u] E)) B 72 o.type 44 i0 (.slice none 0 0) 1 24 Try.underlying72 hi hz0 hz1 hz2 rfl (by decide) v n xs (hown.alloc _) ⟨wr.heap.size, 0, none⟩ 1 1 [u] rfl
    (by
      intro j y hj
      match j, hj with
      | 0, hj =>
        simp at hj; subst hj
        rw [show (⟨wr.heap.size, 0, none⟩ : Addr).add 0 = ⟨wr.heap.size, 0, none⟩ by simp [Addr.add]]
        rw [World.cell?_alloc_at _ _ _ _ rfl]; rfl
      | j + 1, hj => simp at hj)
    (by intro y hy; simp at hy; subst hy; exact h1) (by unfold maxLen; omega) (by omega) (by simp; omega)
  unfold wpList
  rw [if_pos hw]
  refine .inl ?_
  unfold Oper.wp execOp
  simp only [ho, resolve, invoke, builtin, Sem.run_bind, Sem.run_pure, Result.andThen_ok, List.map_toArray, List.map_cons, List.map_nil, hs, hx, hrun]
  exact h v' w' h2 h3 (by rw [World.size_alloc] at h5; exact h5)
/-- Read on in a world that the row appended to has changed. -/
theorem rd_move {w w' : World} {u v : Option Nat} {A : Option Addr} {n : Nat} {xs : List Int} (h : Rd w u A n xs) (hg : w.grownBy w' u) (hv : v = u ∨ v = some w.heap.size) : Rd w' v A n xs :=
  ⟨h.1, fun hn => by
    obtain ⟨b, off, e, hb, hne, hc⟩ := h.2 hn
    refine ⟨b, off, e, Nat.lt_of_lt_of_le hb hg.size, ?_, fun j hj => (gr_cell hg hb hne).trans (hc j hj)⟩
    rcases hv with rfl | rfl
    · exact hne
    · intro e; injection e with e; omega⟩
/-- The rows gathered so far: each in a block of its own, none of them the block x. -/
def AllS (W0 wr : World) (x : Nat) (o : Value) (k : Nat) (Lr : Nat → Nat) (Zr : Nat → List Int) : Prop :=
  Below W0.heap.size W0 wr ∧ ∃ ss : List Value, wr.ownsRow W0.heap.size 44 1 o k ss ∧ ∀ j, j < k → ∃ D e, ss[j]? = some (.slice D (Lr j) e) ∧ Rd wr o.ownBlock D (Lr j) (Zr j) ∧ Rd wr (some x) D (Lr j) (Zr j)
theorem rd_move2 {w w' : World} {u : Option Nat} {x : Nat} {A : Option Addr} {n : Nat} {xs : List Int} (h : Rd w u A n xs) (h2 : Rd w (some x) A n xs) (hg : w.grownBy w' u) : Rd w' (some x) A n xs :=
  ⟨h.1, fun hn => by
    obtain ⟨b, off, e, hb, hne, hc⟩ := h.2 hn
    obtain ⟨b', off', e', _, hne', _⟩ := h2.2 hn
    rw [e] at e'
    injection e' with e'
    injection e' with e1 e2 _
    subst e1 e2
    exact ⟨b, off, e, Nat.lt_of_lt_of_le hb hg.size, hne', fun j hj => (gr_cell hg hb hne).trans (hc j hj)⟩⟩
theorem gr_ownV {B n : Nat} {E : TypeId} {a w : World} {V : Value} {ys : List Value} (hO : a.ownsRow B E 1 V n ys) (hg : a.grownBy w V.ownBlock) (hB : B ≤ a.heap.size) : Below B a w :=
  ⟨hg.os, hg.tape, hg.output, hg.size, fun k hk => hg.block k (by omega) (fun e => by have := (World.ownsRow.lt hO k e.symm).1; omega)⟩
theorem AllS.next {W0 wr w1 w2 : World} {x k : Nat} {o o' : Value} {Lr : Nat → Nat} {Zr : Nat → List Int} {D : Option Addr} {e : Nat} {E : TypeId} {ss : List Value} (hb0 : Below W0.heap.size W0 wr)
    (ho : wr.ownsRow W0.heap.size 44 1 o k ss) (hs : ∀ j, j < k → ∃ D e, ss[j]? = some (.slice D (Lr j) e) ∧ Rd wr o.ownBlock D (Lr j) (Zr j) ∧ Rd wr (some x) D (Lr j) (Zr j))
    (h1 : Below wr.heap.size wr w1) (hO : OwnI wr.heap.size w1 (.slice D (Lr k) e) (Zr k)) (hl : (Zr k).length = Lr k) (hx : x < W0.heap.size)
    (h2 : w2.ownsRow W0.heap.size 44 1 o' (k + 1) (ss ++ [.slice D (Lr k) e])) (h3 : (w1.alloc (.cells #[.slice D (Lr k) e] E)).grownBy w2 o.ownBlock) (h4 : o'.ownBlock = o.ownBlock ∨ o'.ownBlock = some (w1.heap.size + 1)) :
    AllS W0 w2 x o' (k + 1) Lr Zr := by
  have z0 := hb0.size
  have z1 := h1.size
  have hsl : ss.length = k := by have := ho.1; omega
  have hba : Below wr.heap.size wr (w1.alloc (.cells #[.slice D (Lr k) e] E)) := h1.alloc (by omega) _
  have hv : o'.ownBlock = o.ownBlock ∨ o'.ownBlock = some (w1.alloc (.cells #[.slice D (Lr k) e] E)).heap.size := by rw [World.size_alloc]; exact h4
  have hob := (World.ownsRow.lt ho)
  refine ⟨?_, _, h2, fun j hj => ?_⟩
  · exact hb0.trans ((hba.mono z0).trans ⟨h3.os, h3.tape, h3.output, h3.size, fun b hb => h3.block b (by have := hba.size; omega) (fun e => by have := (hob b e.symm).1; omega)⟩)
  · by_cases hjk : j < k
    · obtain ⟨D', e', g1, g2, g3⟩ := hs j hjk
      refine ⟨D', e', by rw [List.getElem?_append_left (by omega)]; exact g1, ?_, ?_⟩
      · exact rd_move (g2.call hba) h3 hv
      · exact rd_move2 (g2.call hba) (g3.call hba) h3
    · obtain rfl : j = k := by omega
      have r1 : ∀ u : Option Nat, (∀ g, u = some g → g < wr.heap.size) → Rd w1 u D (Lr j) (Zr j) := fun u hu => by
        have := (hl ▸ hO).rdAt (u := u) hu
        rwa [hl] at this
      have ra := fun u hu => rd_alloc (r1 u hu) (.cells #[.slice D (Lr j) e] E)
      refine ⟨D, e, by rw [List.getElem?_append_right (by omega), hsl]; simp, ?_, ?_⟩
      · exact rd_move (ra o.ownBlock (fun g hg => (hob g hg).2)) h3 hv
      · exact rd_move2 (ra o.ownBlock (fun g hg => (hob g hg).2)) (ra (some x) (fun g hg => by injection hg with hg; omega)) h3
/-- All rows, as the reference takes them. -/
theorem AllS.rl {W0 wr : World} {x m n : Nat} {o : Value} {Lr : Nat → Nat} {Zr : Nat → List Int} (h : AllS W0 wr x o m Lr Zr) (hl : ∀ k, k < m → Lr k = n) (hm : 0 < m) (hx : x < W0.heap.size) :
    ∃ b cp Ar Cr, o = .slice (some ⟨b, 0, none⟩) m cp ∧ RL wr (some x) (some ⟨b, 0, none⟩) m n Ar Cr Zr := by
  obtain ⟨_, ss, ho, hs⟩ := h
  obtain ⟨b, cp, rfl, hb, hlt⟩ := ho.form hm
  refine ⟨b, cp, fun j => match ss[j]? with | some (.slice D _ _) => D | _ => none, fun j => match ss[j]? with | some (.slice _ _ e) => e | _ => 0, rfl, fun _ => ⟨b, 0, rfl, hlt, fun e => by injection e with e; omega, fun k hk => ?_⟩, fun k hk => ?_⟩
  · obtain ⟨D, e, g1, _, _⟩ := hs k hk
    have hc := ho.cells (g := b) rfl k _ g1
    rw [show (⟨b, 0, none⟩ : Addr).add k = ⟨b, 0 + k, none⟩ by unfold Addr.add; split <;> simp_all] at hc
    simp only [g1]
    rw [hc, hl k hk]
  · obtain ⟨D, e, g1, _, g3⟩ := hs k hk
    simp only [g1]
    rwa [hl k hk] at g3
set_option maxHeartbeats 4000000 in
set_option maxRecDepth 100000 in
theorem vmeansL_big (m cp : Nat) (A : Option Addr) (w : World) (hm : 64 < m) (hm2 : ¬ (80 : Int) < (m : Int))
    (FW : Hid (∀ W, Below w.heap.size w W → Calls Try.prog 14 #[.slice A m cp] W fun e w' => e = .returned (.bool true) ∧ W = w')) :
    Calls Try.prog 9 #[.slice A m cp] w fun e w' => e = .returned (.bool true) ∧ Below w.heap.size w w' := by
  have AW := Lib.hid (fun W => awake4_any W)
  have m64 : (64 : Int) < (m : Int) := by omega
  go_enter Try.func9, Try.ntmps9
  go_upto_region 6 with (first
    | (go_at_call 13; refine (AW.out _).mono ?_; rintro e w1 ⟨rfl, hb1⟩; obtain ⟨hc1, hf1, hz1⟩ := bcell hb1; (try simp at hz1); (try have : w.heap.size < w1.heap.size := by omega); (try have : w.heap.size + 1 < w1.heap.size := by omega); (try have : w.heap.size + 1 + 1 < w1.heap.size := by omega); (try have : w.heap.size + 1 + 1 + 1 < w1.heap.size := by omega); (try have : g < w1.heap.size := by omega); (try have : ga < w1.heap.size := by omega); (try have : gb < w1.heap.size := by omega); (try have : gc < w1.heap.size := by omega); have hB : Below w.heap.size w w1 := (by repeat (first | (with_reducible exact Below.refl _ _) | (with_reducible assumption) | (with_reducible refine Below.drew ?_) | (with_reducible refine Below.alloc ?_ ?_ _) | (with_reducible refine Below.setCell ?_ ?_ _) | (with_reducible refine Below.trans ?_ (Below.mono hb ?_)) | (with_reducible refine Below.trans ?_ (Below.mono hb1 ?_)) | (with_reducible refine Below.trans ?_ (Below.mono hb2 ?_)) | (with_reducible refine Below.trans ?_ (Below.mono hb3 ?_)) | (with_reducible refine Below.trans ?_ (Below.mono hb4 ?_)) | (with_reducible refine Below.trans ?_ (Below.mono hb5 ?_)) | (with_reducible refine Below.trans ?_ (Below.mono hb6 ?_)) | (with_reducible refine Below.trans ?_ (Below.mono hb7 ?_)) | (with_reducible refine Below.trans ?_ (Below.mono hb8 ?_)) | (with_reducible refine Below.trans ?_ (Below.mono hb9 ?_)) | (focus (first | omega | (simp; done) | (simp; omega))) | exact hB)))
    | (go_at_call 14; refine (FW.out _ hb1).mono ?_; rintro e w2 ⟨rfl, rfl⟩))
  refine at_world fun Wb hWb => ?_
  have tw : Two w Wb w1.heap.size 0 := by
    subst hWb
    refine ⟨Unt.at_ ((Below.heap_alloc _ _ _ (by simp)).trans (newest_at _ _ (by simp))), newest_at _ _ (by simp), (by repeat (first | (with_reducible exact Below.refl _ _) | (with_reducible assumption) | (with_reducible refine Below.drew ?_) | (with_reducible refine Below.alloc ?_ ?_ _) | (with_reducible refine Below.setCell ?_ ?_ _) | (with_reducible refine Below.trans ?_ (Below.mono hb ?_)) | (with_reducible refine Below.trans ?_ (Below.mono hb1 ?_)) | (with_reducible refine Below.trans ?_ (Below.mono hb2 ?_)) | (with_reducible refine Below.trans ?_ (Below.mono hb3 ?_)) | (with_reducible refine Below.trans ?_ (Below.mono hb4 ?_)) | (with_reducible refine Below.trans ?_ (Below.mono hb5 ?_)) | (with_reducible refine Below.trans ?_ (Below.mono hb6 ?_)) | (with_reducible refine Below.trans ?_ (Below.mono hb7 ?_)) | (with_reducible refine Below.trans ?_ (Below.mono hb8 ?_)) | (with_reducible refine Below.trans ?_ (Below.mono hb9 ?_)) | (focus (first | omega | (simp; done) | (simp; omega))) | exact hB))⟩
  have hG : w.heap.size ≤ w1.heap.size := by omega
  clear hWb hb1 hc1 hf1 hB
  generalize w1.heap.size = G at *
  go_wp2_with (first
    | (go_at_call 44; refine (vmeans_big m cp A _ _ hm ⟨_, rfl⟩).mono ?_; rintro e w3 ⟨rfl, hb3⟩; have t3 := tw.call hb3)
    | (go_at_call 21; refine (refused4_any none 0 G 3 _ t3.1).mono ?_; rintro e w4 ⟨rfl, hb4⟩))
  go_ret
  exact ⟨rfl, t3.2.2.trans (hb4.mono t3.2.2.size)⟩
set_option maxHeartbeats 4000000 in
set_option maxRecDepth 100000 in
theorem vmeansL_none (cp : Nat) (A : Option Addr) (w : World) :
    Calls Try.prog 9 #[.slice A 0 cp] w fun e w' => e = .returned (.bool true) ∧ Below w.heap.size w w' := by
  have AW := Lib.hid (fun W => awake4_any W)
  have FW := Lib.hid (fun W (_ : Below w.heap.size w W) => few_none A cp W)
  go_enter Try.func9, Try.ntmps9
  go_upto_region 6 with (first
    | (go_at_call 13; refine (AW.out _).mono ?_; rintro e w1 ⟨rfl, hb1⟩; obtain ⟨hc1, hf1, hz1⟩ := bcell hb1; (try simp at hz1); (try have : w.heap.size < w1.heap.size := by omega); (try have : w.heap.size + 1 < w1.heap.size := by omega); (try have : w.heap.size + 1 + 1 < w1.heap.size := by omega); (try have : w.heap.size + 1 + 1 + 1 < w1.heap.size := by omega); (try have : g < w1.heap.size := by omega); (try have : ga < w1.heap.size := by omega); (try have : gb < w1.heap.size := by omega); (try have : gc < w1.heap.size := by omega); have hB : Below w.heap.size w w1 := (by repeat (first | (with_reducible exact Below.refl _ _) | (with_reducible assumption) | (with_reducible refine Below.drew ?_) | (with_reducible refine Below.alloc ?_ ?_ _) | (with_reducible refine Below.setCell ?_ ?_ _) | (with_reducible refine Below.trans ?_ (Below.mono hb ?_)) | (with_reducible refine Below.trans ?_ (Below.mono hb1 ?_)) | (with_reducible refine Below.trans ?_ (Below.mono hb2 ?_)) | (with_reducible refine Below.trans ?_ (Below.mono hb3 ?_)) | (with_reducible refine Below.trans ?_ (Below.mono hb4 ?_)) | (with_reducible refine Below.trans ?_ (Below.mono hb5 ?_)) | (with_reducible refine Below.trans ?_ (Below.mono hb6 ?_)) | (with_reducible refine Below.trans ?_ (Below.mono hb7 ?_)) | (with_reducible refine Below.trans ?_ (Below.mono hb8 ?_)) | (with_reducible refine Below.trans ?_ (Below.mono hb9 ?_)) | (focus (first | omega | (simp; done) | (simp; omega))) | exact hB)))
    | (go_at_call 14; refine (FW.out _ hb1).mono ?_; rintro e w2 ⟨rfl, rfl⟩))
  refine at_world fun Wb hWb => ?_
  have tw : Two w Wb w1.heap.size 0 := by
    subst hWb
    refine ⟨Unt.at_ ((Below.heap_alloc _ _ _ (by simp)).trans (newest_at _ _ (by simp))), newest_at _ _ (by simp), (by repeat (first | (with_reducible exact Below.refl _ _) | (with_reducible assumption) | (with_reducible refine Below.drew ?_) | (with_reducible refine Below.alloc ?_ ?_ _) | (with_reducible refine Below.setCell ?_ ?_ _) | (with_reducible refine Below.trans ?_ (Below.mono hb ?_)) | (with_reducible refine Below.trans ?_ (Below.mono hb1 ?_)) | (with_reducible refine Below.trans ?_ (Below.mono hb2 ?_)) | (with_reducible refine Below.trans ?_ (Below.mono hb3 ?_)) | (with_reducible refine Below.trans ?_ (Below.mono hb4 ?_)) | (with_reducible refine Below.trans ?_ (Below.mono hb5 ?_)) | (with_reducible refine Below.trans ?_ (Below.mono hb6 ?_)) | (with_reducible refine Below.trans ?_ (Below.mono hb7 ?_)) | (with_reducible refine Below.trans ?_ (Below.mono hb8 ?_)) | (with_reducible refine Below.trans ?_ (Below.mono hb9 ?_)) | (focus (first | omega | (simp; done) | (simp; omega))) | exact hB))⟩
  have hG : w.heap.size ≤ w1.heap.size := by omega
  clear hWb hb1 hc1 hf1 hB
  generalize w1.heap.size = G at *
  go_wp2_with (go_at_call 44; refine (vmeans_none cp A _ _ ⟨_, rfl⟩).mono ?_; rintro e w3 ⟨rfl, hb3⟩; have t3 := tw.call hb3)
  refine wp_loop_rounds 1 ?_
  rw [rounds_succ]
  go_wp2_with (go_at_call 21; refine (refused4_any none 0 G 40 _ t3.1).mono ?_; rintro e w4 ⟨rfl, hb4⟩)
  go_ret
  exact ⟨rfl, t3.2.2.trans (hb4.mono t3.2.2.size)⟩
theorem World.ownsRow.low4 {B n : Nat} {E : TypeId} {w w' : World} {v : Value} {ys : List Value} (h : w.ownsRow B E 1 v n ys) (hb : Below w.heap.size w w') : w'.ownsRow B E 1 v n ys :=
  World.ownsRow.kept (row := none) h ⟨hb.os, hb.tape, hb.output, hb.size, fun k hk _ => hb.block k hk⟩ (by cases hv : v.ownBlock <;> simp)
set_option maxHeartbeats 8000000 in
set_option maxRecDepth 100000 in
theorem vmeansL_shape (b off m cp k0 : Nat) (Ar : Nat → Option Addr) (Lr Cr : Nat → Nat) (Zr : Nat → List Int) (w : World) (hm : m ≤ 64) (hl : ∀ k, k < m → Lr k ≤ 200) (hbl : b < w.heap.size)
    (hS : Sls w b off m Ar Lr Cr) (hr : ∀ k, k < m → Rd w none (Ar k) (Lr k) (Zr k)) (h0 : k0 < m) (hk0 : ¬ Lr k0 = Lr 0) (hk1 : ∀ k, k < k0 → Lr k = Lr 0)
    (FW : Hid (∀ W, Below w.heap.size w W → Calls Try.prog 14 #[.slice (some ⟨b, off, none⟩) m cp] W fun e w' => e = .returned (.bool true) ∧ W = w')) :
    Calls Try.prog 9 #[.slice (some ⟨b, off, none⟩) m cp] w fun e w' => e = .returned (.bool true) ∧ Below w.heap.size w w' := by
  have AW := Lib.hid (fun W => awake4_any W)
  have m64 : ¬ (64 : Int) < (m : Int) := by omega
  have m80 : ¬ (80 : Int) < (m : Int) := by omega
  have HS := Lib.hid hS
  have HR := Lib.hid hr
  have HL := Lib.hid hl
  have K0 := Lib.hid hk0
  have K1 := Lib.hid hk1
  clear hS hr hl hk0 hk1
  go_enter Try.func9, Try.ntmps9
  go_upto_region 6 with (first
    | (go_at_call 13; refine (AW.out _).mono ?_; rintro e w1 ⟨rfl, hb1⟩; obtain ⟨hc1, hf1, hz1⟩ := bcell hb1; (try simp at hz1); (try have : w.heap.size < w1.heap.size := by omega); (try have : w.heap.size + 1 < w1.heap.size := by omega); (try have : w.heap.size + 1 + 1 < w1.heap.size := by omega); (try have : w.heap.size + 1 + 1 + 1 < w1.heap.size := by omega); (try have : g < w1.heap.size := by omega); (try have : ga < w1.heap.size := by omega); (try have : gb < w1.heap.size := by omega); (try have : gc < w1.heap.size := by omega); have hB : Below w.heap.size w w1 := (by repeat (first | (with_reducible exact Below.refl _ _) | (with_reducible assumption) | (with_reducible refine Below.drew ?_) | (with_reducible refine Below.alloc ?_ ?_ _) | (with_reducible refine Below.setCell ?_ ?_ _) | (with_reducible refine Below.trans ?_ (Below.mono hb ?_)) | (with_reducible refine Below.trans ?_ (Below.mono hb1 ?_)) | (with_reducible refine Below.trans ?_ (Below.mono hb2 ?_)) | (with_reducible refine Below.trans ?_ (Below.mono hb3 ?_)) | (with_reducible refine Below.trans ?_ (Below.mono hb4 ?_)) | (with_reducible refine Below.trans ?_ (Below.mono hb5 ?_)) | (with_reducible refine Below.trans ?_ (Below.mono hb6 ?_)) | (with_reducible refine Below.trans ?_ (Below.mono hb7 ?_)) | (with_reducible refine Below.trans ?_ (Below.mono hb8 ?_)) | (with_reducible refine Below.trans ?_ (Below.mono hb9 ?_)) | (focus (first | omega | (simp; done) | (simp; omega))) | exact hB)))
    | (go_at_call 14; refine (FW.out _ hb1).mono ?_; rintro e w2 ⟨rfl, rfl⟩))
  refine at_world fun Wb hWb => ?_
  have tw : Two w Wb w1.heap.size 0 := by
    subst hWb
    refine ⟨Unt.at_ ((Below.heap_alloc _ _ _ (by simp)).trans (newest_at _ _ (by simp))), newest_at _ _ (by simp), (by repeat (first | (with_reducible exact Below.refl _ _) | (with_reducible assumption) | (with_reducible refine Below.drew ?_) | (with_reducible refine Below.alloc ?_ ?_ _) | (with_reducible refine Below.setCell ?_ ?_ _) | (with_reducible refine Below.trans ?_ (Below.mono hb ?_)) | (with_reducible refine Below.trans ?_ (Below.mono hb1 ?_)) | (with_reducible refine Below.trans ?_ (Below.mono hb2 ?_)) | (with_reducible refine Below.trans ?_ (Below.mono hb3 ?_)) | (with_reducible refine Below.trans ?_ (Below.mono hb4 ?_)) | (with_reducible refine Below.trans ?_ (Below.mono hb5 ?_)) | (with_reducible refine Below.trans ?_ (Below.mono hb6 ?_)) | (with_reducible refine Below.trans ?_ (Below.mono hb7 ?_)) | (with_reducible refine Below.trans ?_ (Below.mono hb8 ?_)) | (with_reducible refine Below.trans ?_ (Below.mono hb9 ?_)) | (focus (first | omega | (simp; done) | (simp; omega))) | exact hB))⟩
  have hG : w.heap.size ≤ w1.heap.size := by omega
  clear hWb hb1 hc1 hf1 hB
  generalize w1.heap.size = G at *
  have cW : ∀ k, k < m → Wb.cell? ⟨b, off + k, none⟩ = some (.slice (Ar k) (Lr k) (Cr k)) := fun k hk => (tw.2.2.cell (p := ⟨b, off + k, none⟩) hbl).trans (HS.out k hk)
  have CW := Lib.hid cW
  have lb : b < Wb.heap.size := by have := tw.2.2.size; omega
  clear cW
  go_upto_region 11 with (go_at_call 44; refine (vmeans_shape b off m cp k0 _ Ar Lr Cr _ hm (fun k hk => by have := HL.out k hk; omega) lb CW.out h0 K0.out K1.out ⟨_, rfl⟩).mono ?_; rintro e w3 ⟨rfl, hb3⟩; have t3 := tw.call hb3)
  have C3 := Lib.hid (fun k (hk : k < m) => (hb3.cell (p := ⟨b, off + k, none⟩) lb).trans (CW.out k hk))
  have R3 := Lib.hid (fun k (hk : k < m) => (HR.out k hk).call t3.2.2)
  have lb3 : b < w3.heap.size := by have := hb3.size; omega
  have hGW : G + 1 < w3.heap.size := t3.2.1.lt
  clear hb3 CW
  obtain ⟨W3, hW3⟩ : ∃ W3 : World, W3 = w3 := ⟨_, rfl⟩
  obtain rfl : W3 = w3 := hW3
  go_loopw [7, 39] (fun o i wr => ∃ k : Nat, k ≤ k0 ∧ i = .int .i64 k ∧ AllS W3 wr (G + 1) o k Lr Zr) (fun _ i _ => m - (intOf i).toNat)
  case atStart => exact ⟨0, Nat.zero_le _, rfl, Below.refl _ _, [], World.ownsRow_nil _ _ _ _, fun j hj => absurd hj (by omega)⟩
  case round =>
    obtain ⟨k, hk, rfl, hA⟩ := hrel
    have hB := hA.1
    have zz := hB.size
    have x1 := (hB.cell (p := ⟨b, off + k, none⟩) (by omega)).trans (C3.out k (by omega))
    have rk := (R3.out k (by omega)).call hB
    have lk := rk.1
    obtain ⟨_, ss, hss, hsj⟩ := hA
    have ia : (0 : Int) ≤ (k : Int) := by omega
    have ib : (k : Int) < (m : Int) := by omega
    have HSS := Lib.hid hss
    have HSJ := Lib.hid hsj
    have HB := Lib.hid hB
    have RK := Lib.hid rk
    have LK := Lib.hid lk
    have NK := Lib.hid (HL.out k (by omega))
    clear hss hsj hB rk lk
    go_upto_region 14 with (first
      | (go_at_call 24; refine (plain04_any (Ar k) (Lr k) (Cr k) (Zr k) _ (by have := NK.out; omega) RK.out).mono ?_; rintro e y1 ⟨V1, rfl, hO1, hb1⟩; obtain ⟨D1, e1, rfl, _⟩ := hO1.lenW LK.out; have zb1 := hb1.size)
      | (at_builtin; refine app_rows (B := W3.heap.size) (by omega) (World.ownsRow.low4 HSS.out hb1) (by omega) rfl rfl rfl _ rfl rfl ?_; intro v' y3 hown3 hg3 hob; have hN : AllS W3 y3 (G + 1) v' (k + 1) Lr Zr := AllS.next HB.out HSS.out HSJ.out hb1 hO1 LK.out hGW hown3 hg3 hob; have x0 := (hN.1.cell (p := ⟨b, off + 0, none⟩) (by omega)).trans (C3.out 0 (by omega)); simp only [Nat.add_zero] at x0; clear hown3 hg3 hob hO1 hb1))
    by_cases hlt : k < k0
    · have e1 : ((Lr k : Nat) : Int) = ((Lr 0 : Nat) : Int) := by rw [K1.out k hlt]
      go_wp2_with fail
      go_roundw
      case rel => exact ⟨k + 1, by omega, by simp, hN⟩
      case measure => simp [intOf]; omega
    · obtain rfl : k = k0 := by omega
      have e1 : ¬ ((Lr k : Nat) : Int) = ((Lr 0 : Nat) : Int) := by have := K0.out; omega
      have t4 := t3.call hN.1
      go_wp2_with (go_at_call 21; refine (refused4_any none 0 G 40 _ t4.1).mono ?_; rintro e w4 ⟨rfl, hb4⟩)
      go_ret
      exact ⟨rfl, t4.2.2.trans (hb4.mono t4.2.2.size)⟩
set_option maxHeartbeats 8000000 in
set_option maxRecDepth 100000 in
theorem vmeansL_main (b off m n cp : Nat) (Ar : Nat → Option Addr) (Lr Cr : Nat → Nat) (Zr : Nat → List Int) (w : World) (hm0 : 0 < m) (hm : m ≤ 64) (hn : n ≤ 200) (hbl : b < w.heap.size)
    (hS : Sls w b off m Ar Lr Cr) (hr : ∀ k, k < m → Rd w none (Ar k) (Lr k) (Zr k)) (hz : ∀ k, k < m → All64 (Zr k)) (hl : ∀ k, k < m → Lr k = n)
    (FW : Hid (∀ W, Below w.heap.size w W → Calls Try.prog 14 #[.slice (some ⟨b, off, none⟩) m cp] W fun e w' => e = .returned (.bool true) ∧ W = w')) :
    Calls Try.prog 9 #[.slice (some ⟨b, off, none⟩) m cp] w fun e w' => e = .returned (.bool true) ∧ Below w.heap.size w w' := by
  have AW := Lib.hid (fun W => awake4_any W)
  have m64 : ¬ (64 : Int) < (m : Int) := by omega
  have m80 : ¬ (80 : Int) < (m : Int) := by omega
  have m0 : ¬ (m : Int) = 0 := by omega
  have HS := Lib.hid hS
  have HR := Lib.hid hr
  have HZ := Lib.hid hz
  have HN := Lib.hid hl
  have HL := Lib.hid (fun k (hk : k < m) => show Lr k ≤ 200 by rw [hl k hk]; exact hn)
  clear hS hr hl hz
  go_enter Try.func9, Try.ntmps9
  go_upto_region 6 with (first
    | (go_at_call 13; refine (AW.out _).mono ?_; rintro e w1 ⟨rfl, hb1⟩; obtain ⟨hc1, hf1, hz1⟩ := bcell hb1; (try simp at hz1); (try have : w.heap.size < w1.heap.size := by omega); (try have : w.heap.size + 1 < w1.heap.size := by omega); (try have : w.heap.size + 1 + 1 < w1.heap.size := by omega); (try have : w.heap.size + 1 + 1 + 1 < w1.heap.size := by omega); (try have : g < w1.heap.size := by omega); (try have : ga < w1.heap.size := by omega); (try have : gb < w1.heap.size := by omega); (try have : gc < w1.heap.size := by omega); have hB : Below w.heap.size w w1 := (by repeat (first | (with_reducible exact Below.refl _ _) | (with_reducible assumption) | (with_reducible refine Below.drew ?_) | (with_reducible refine Below.alloc ?_ ?_ _) | (with_reducible refine Below.setCell ?_ ?_ _) | (with_reducible refine Below.trans ?_ (Below.mono hb ?_)) | (with_reducible refine Below.trans ?_ (Below.mono hb1 ?_)) | (with_reducible refine Below.trans ?_ (Below.mono hb2 ?_)) | (with_reducible refine Below.trans ?_ (Below.mono hb3 ?_)) | (with_reducible refine Below.trans ?_ (Below.mono hb4 ?_)) | (with_reducible refine Below.trans ?_ (Below.mono hb5 ?_)) | (with_reducible refine Below.trans ?_ (Below.mono hb6 ?_)) | (with_reducible refine Below.trans ?_ (Below.mono hb7 ?_)) | (with_reducible refine Below.trans ?_ (Below.mono hb8 ?_)) | (with_reducible refine Below.trans ?_ (Below.mono hb9 ?_)) | (focus (first | omega | (simp; done) | (simp; omega))) | exact hB)))
    | (go_at_call 14; refine (FW.out _ hb1).mono ?_; rintro e w2 ⟨rfl, rfl⟩))
  refine at_world fun Wb hWb => ?_
  have tw : Two w Wb w1.heap.size 0 := by
    subst hWb
    refine ⟨Unt.at_ ((Below.heap_alloc _ _ _ (by simp)).trans (newest_at _ _ (by simp))), newest_at _ _ (by simp), (by repeat (first | (with_reducible exact Below.refl _ _) | (with_reducible assumption) | (with_reducible refine Below.drew ?_) | (with_reducible refine Below.alloc ?_ ?_ _) | (with_reducible refine Below.setCell ?_ ?_ _) | (with_reducible refine Below.trans ?_ (Below.mono hb ?_)) | (with_reducible refine Below.trans ?_ (Below.mono hb1 ?_)) | (with_reducible refine Below.trans ?_ (Below.mono hb2 ?_)) | (with_reducible refine Below.trans ?_ (Below.mono hb3 ?_)) | (with_reducible refine Below.trans ?_ (Below.mono hb4 ?_)) | (with_reducible refine Below.trans ?_ (Below.mono hb5 ?_)) | (with_reducible refine Below.trans ?_ (Below.mono hb6 ?_)) | (with_reducible refine Below.trans ?_ (Below.mono hb7 ?_)) | (with_reducible refine Below.trans ?_ (Below.mono hb8 ?_)) | (with_reducible refine Below.trans ?_ (Below.mono hb9 ?_)) | (focus (first | omega | (simp; done) | (simp; omega))) | exact hB))⟩
  have hG : w.heap.size ≤ w1.heap.size := by omega
  clear hWb hb1 hc1 hf1 hB
  generalize w1.heap.size = G at *
  have cW : ∀ k, k < m → Wb.cell? ⟨b, off + k, none⟩ = some (.slice (Ar k) (Lr k) (Cr k)) := fun k hk => (tw.2.2.cell (p := ⟨b, off + k, none⟩) hbl).trans (HS.out k hk)
  have CW := Lib.hid cW
  have lb : b < Wb.heap.size := by have := tw.2.2.size; omega
  have hRL : RL Wb (some G) (some ⟨b, off, none⟩) m n Ar Cr Zr := ⟨fun _ => ⟨b, off, rfl, lb, fun e => by injection e with e; omega, fun k hk => by rw [cW k hk, HN.out k hk]⟩, fun k hk => by
    have := HR.out k hk
    rw [HN.out k hk] at this
    exact (this.unit (v := some G) (by intro g e; injection e; omega)).call tw.2.2⟩
  clear cW
  go_upto_region 11 with (go_at_call 44; refine (vmeans_any b off m n cp (.pointer (some ⟨G, 0, none⟩)) (some G) 0 Ar Cr Zr _ hm0 hm (by omega) hRL HZ.out tw.1 (by omega) (by omega)).mono ?_; rintro e w3 ⟨V, rfl, hO3, hg3, hU3⟩)
  obtain ⟨A5, c5, e5, r5⟩ := hO3.rd (u := some (G + 1)) (fun g hg => by injection hg with hg; have := tw.2.1.lt; omega)
  rw [rowI_length] at e5 r5
  subst e5
  have t3 := tw.left hg3 hU3 hG
  have b3 : Below w.heap.size w w3 := t3.2.2
  have hGW : G + 1 < w3.heap.size := t3.2.1.lt
  have lb3 : b < w3.heap.size := by have := hg3.size; omega
  have C3 := Lib.hid (fun k (hk : k < m) => (b3.cell (p := ⟨b, off + k, none⟩) hbl).trans (HS.out k hk))
  have R3 := Lib.hid (fun k (hk : k < m) => (HR.out k hk).call b3)
  clear hO3 hRL CW hg3 hU3 tw
  obtain ⟨W3, hW3⟩ : ∃ W3 : World, W3 = w3 := ⟨_, rfl⟩
  obtain rfl : W3 = w3 := hW3
  go_loopw [7, 39] (fun o i wr => ∃ k : Nat, k ≤ m ∧ i = .int .i64 k ∧ AllS W3 wr (G + 1) o k Lr Zr) (fun _ i _ => m - (intOf i).toNat)
  case atStart => exact ⟨0, Nat.zero_le _, rfl, Below.refl _ _, [], World.ownsRow_nil _ _ _ _, fun j hj => absurd hj (by omega)⟩
  case round =>
    obtain ⟨k, hk, rfl, hA⟩ := hrel
    by_cases hlt : k < m
    · skip
      have hB := hA.1
      have zz := hB.size
      have x1 := (hB.cell (p := ⟨b, off + k, none⟩) (by omega)).trans (C3.out k (by omega))
      have rk := (R3.out k (by omega)).call hB
      have lk := rk.1
      obtain ⟨_, ss, hss, hsj⟩ := hA
      have ia : (0 : Int) ≤ (k : Int) := by omega
      have ib : (k : Int) < (m : Int) := by omega
      have HSS := Lib.hid hss
      have HSJ := Lib.hid hsj
      have HB := Lib.hid hB
      have RK := Lib.hid rk
      have LK := Lib.hid lk
      have NK := Lib.hid (HL.out k (by omega))
      clear hss hsj hB rk lk
      go_upto_region 14 with (first
        | (go_at_call 24; refine (plain04_any (Ar k) (Lr k) (Cr k) (Zr k) _ (by have := NK.out; omega) RK.out).mono ?_; rintro e y1 ⟨V1, rfl, hO1, hb1⟩; obtain ⟨D1, e1, rfl, _⟩ := hO1.lenW LK.out; have zb1 := hb1.size)
        | (at_builtin; refine app_rows (B := W3.heap.size) (by omega) (World.ownsRow.low4 HSS.out hb1) (by omega) rfl rfl rfl _ rfl rfl ?_; intro v' y3 hown3 hg3 hob; have hN : AllS W3 y3 (G + 1) v' (k + 1) Lr Zr := AllS.next HB.out HSS.out HSJ.out hb1 hO1 LK.out hGW hown3 hg3 hob; have x0 := (hN.1.cell (p := ⟨b, off + 0, none⟩) (by omega)).trans (C3.out 0 (by omega)); simp only [Nat.add_zero] at x0; clear hown3 hg3 hob hO1 hb1))
      have e1 : ((Lr k : Nat) : Int) = ((Lr 0 : Nat) : Int) := by rw [HN.out k hlt, HN.out 0 hm0]
      go_wp2_with fail
      go_roundw
      case rel => exact ⟨k + 1, by omega, by simp, hN⟩
      case measure => simp [intOf]; omega
    · obtain rfl : k = m := by omega
      have t4U := t3.1.call hA.1
      have t4V := t3.2.1.call hA.1
      have b4 := b3.trans (hA.1.mono b3.size)
      have r54 := r5.call hA.1
      obtain ⟨b6, c6, Ar6, Cr6, rfl, hL6⟩ := hA.rl HN.out hm0 hGW
      clear hA
      have cb := cntI_bound (mnV Zr k) n
      go_wp2_with (first
        | (go_at_call 45; refine (rmeans_any (G + 1) b6 0 k n c6 0 Ar6 Cr6 Zr _ hm0 hm (by omega) hL6 HZ.out t4V (by omega) (by omega)).mono ?_; rintro e w5 ⟨V6, rfl, hO6, hg6, hV6⟩; have u5 := t4U.grown hg6 (by rintro _ ⟨⟩; simp); obtain ⟨A6, e6, rfl, rd6⟩ := hO6.lenW (rowI_length _ _); have b5 := b4.trans (gr_new hg6 b4.size (by omega)))
        | (go_at_call 22; refine (like4_any A5 A6 n c5 e6 G (G + 1) _ _ _ (by omega) ((r54.grown hg6).anyu) rd6 u5 hV6).mono ?_; rintro e w7 ⟨rfl, hb7⟩))
      go_ret
      exact ⟨rfl, b5.trans (hb7.mono b5.size)⟩
theorem vecMeans_walk (A : Option Addr) (m cp : Nat) (Ar : Nat → Option Addr) (Lr Cr : Nat → Nat) (Zr : Nat → List Int) (w : World) (i0 : RdL w A m Ar Lr Cr Zr) :
    Calls Try.prog 9 #[.slice A m cp] w fun e w' => e = .returned (.bool true) ∧ Below w.heap.size w w' := by
  have AW := Lib.hid (fun W => awake4_any W)
  by_cases h80 : (80 : Int) < (m : Int)
  · clear i0
    go_enter Try.func9, Try.ntmps9
    go_wp2_with (go_at_call 13; refine (AW.out _).mono ?_; rintro e w1 ⟨rfl, hb1⟩; obtain ⟨hc1, hf1, hz1⟩ := bcell hb1; (try simp at hz1); (try have : w.heap.size < w1.heap.size := by omega); (try have : w.heap.size + 1 < w1.heap.size := by omega); (try have : w.heap.size + 1 + 1 < w1.heap.size := by omega); (try have : w.heap.size + 1 + 1 + 1 < w1.heap.size := by omega); (try have : g < w1.heap.size := by omega); (try have : ga < w1.heap.size := by omega); (try have : gb < w1.heap.size := by omega); (try have : gc < w1.heap.size := by omega); have hB : Below w.heap.size w w1 := (by repeat (first | (with_reducible exact Below.refl _ _) | (with_reducible assumption) | (with_reducible refine Below.drew ?_) | (with_reducible refine Below.alloc ?_ ?_ _) | (with_reducible refine Below.setCell ?_ ?_ _) | (with_reducible refine Below.trans ?_ (Below.mono hb ?_)) | (with_reducible refine Below.trans ?_ (Below.mono hb1 ?_)) | (with_reducible refine Below.trans ?_ (Below.mono hb2 ?_)) | (with_reducible refine Below.trans ?_ (Below.mono hb3 ?_)) | (with_reducible refine Below.trans ?_ (Below.mono hb4 ?_)) | (with_reducible refine Below.trans ?_ (Below.mono hb5 ?_)) | (with_reducible refine Below.trans ?_ (Below.mono hb6 ?_)) | (with_reducible refine Below.trans ?_ (Below.mono hb7 ?_)) | (with_reducible refine Below.trans ?_ (Below.mono hb8 ?_)) | (with_reducible refine Below.trans ?_ (Below.mono hb9 ?_)) | (focus (first | omega | (simp; done) | (simp; omega))) | exact hB)))
    go_ret
    exact ⟨rfl, (by repeat (first | (with_reducible exact Below.refl _ _) | (with_reducible assumption) | (with_reducible refine Below.drew ?_) | (with_reducible refine Below.alloc ?_ ?_ _) | (with_reducible refine Below.setCell ?_ ?_ _) | (with_reducible refine Below.trans ?_ (Below.mono hb ?_)) | (with_reducible refine Below.trans ?_ (Below.mono hb1 ?_)) | (with_reducible refine Below.trans ?_ (Below.mono hb2 ?_)) | (with_reducible refine Below.trans ?_ (Below.mono hb3 ?_)) | (with_reducible refine Below.trans ?_ (Below.mono hb4 ?_)) | (with_reducible refine Below.trans ?_ (Below.mono hb5 ?_)) | (with_reducible refine Below.trans ?_ (Below.mono hb6 ?_)) | (with_reducible refine Below.trans ?_ (Below.mono hb7 ?_)) | (with_reducible refine Below.trans ?_ (Below.mono hb8 ?_)) | (with_reducible refine Below.trans ?_ (Below.mono hb9 ?_)) | (focus (first | omega | (simp; done) | (simp; omega))) | exact hB))⟩
  · by_cases hm0 : m = 0
    · subst hm0
      exact vmeansL_none cp A w
    · obtain ⟨b, off, rfl, hbl, hc⟩ := i0.1 (by omega)
      have hS : Sls w b off m Ar Lr Cr := hc
      have hSW : ∀ W, Below w.heap.size w W → Sls W b off m Ar Lr Cr := fun W hb j hj => (hb.cell (p := ⟨b, off + j, none⟩) hbl).trans (hc j hj)
      by_cases hall : ∀ k, k < m → Lr k ≤ 200
      · have FW := Lib.hid (fun W hb => few4_yes b off m cp Ar Lr Cr W (by omega) (hSW W hb) hall)
        by_cases h64 : 64 < m
        · exact vmeansL_big m cp _ w h64 h80 FW
        · by_cases hl : ∀ k, k < m → Lr k = Lr 0
          · exact vmeansL_main b off m (Lr 0) cp Ar Lr Cr Zr w (by omega) (by omega) (hall 0 (by omega)) hbl hS (fun k hk => (i0.2 k hk).1) (fun k hk => (i0.2 k hk).2) hl FW
          · obtain ⟨k0, h1, h2, h3⟩ := first_not (P := fun k => Lr k = Lr 0) hl
            exact vmeansL_shape b off m cp k0 Ar Lr Cr Zr w (by omega) hall hbl hS (fun k hk => (i0.2 k hk).1) h1 h2 h3 FW
      · obtain ⟨k0, h1, h2, h3⟩ := first_not (P := fun k => Lr k ≤ 200) hall
        have FN := Lib.hid (fun W hb => few4_no b off m cp k0 Ar Lr Cr W (by omega) (hSW W hb) h3 h1 (by omega))
        clear hall h1 h2 h3 hc hS hSW i0
        go_enter Try.func9, Try.ntmps9
        go_wp2_with (first
          | (go_at_call 13; refine (AW.out _).mono ?_; rintro e w1 ⟨rfl, hb1⟩; obtain ⟨hc1, hf1, hz1⟩ := bcell hb1; (try simp at hz1); (try have : w.heap.size < w1.heap.size := by omega); (try have : w.heap.size + 1 < w1.heap.size := by omega); (try have : w.heap.size + 1 + 1 < w1.heap.size := by omega); (try have : w.heap.size + 1 + 1 + 1 < w1.heap.size := by omega); (try have : g < w1.heap.size := by omega); (try have : ga < w1.heap.size := by omega); (try have : gb < w1.heap.size := by omega); (try have : gc < w1.heap.size := by omega); have hB : Below w.heap.size w w1 := (by repeat (first | (with_reducible exact Below.refl _ _) | (with_reducible assumption) | (with_reducible refine Below.drew ?_) | (with_reducible refine Below.alloc ?_ ?_ _) | (with_reducible refine Below.setCell ?_ ?_ _) | (with_reducible refine Below.trans ?_ (Below.mono hb ?_)) | (with_reducible refine Below.trans ?_ (Below.mono hb1 ?_)) | (with_reducible refine Below.trans ?_ (Below.mono hb2 ?_)) | (with_reducible refine Below.trans ?_ (Below.mono hb3 ?_)) | (with_reducible refine Below.trans ?_ (Below.mono hb4 ?_)) | (with_reducible refine Below.trans ?_ (Below.mono hb5 ?_)) | (with_reducible refine Below.trans ?_ (Below.mono hb6 ?_)) | (with_reducible refine Below.trans ?_ (Below.mono hb7 ?_)) | (with_reducible refine Below.trans ?_ (Below.mono hb8 ?_)) | (with_reducible refine Below.trans ?_ (Below.mono hb9 ?_)) | (focus (first | omega | (simp; done) | (simp; omega))) | exact hB)))
          | (go_at_call 14; refine (FN.out _ hb1).mono ?_; rintro e w2 ⟨rfl, rfl⟩))
        go_ret
        exact ⟨rfl, (by repeat (first | (with_reducible exact Below.refl _ _) | (with_reducible assumption) | (with_reducible refine Below.drew ?_) | (with_reducible refine Below.alloc ?_ ?_ _) | (with_reducible refine Below.setCell ?_ ?_ _) | (with_reducible refine Below.trans ?_ (Below.mono hb ?_)) | (with_reducible refine Below.trans ?_ (Below.mono hb1 ?_)) | (with_reducible refine Below.trans ?_ (Below.mono hb2 ?_)) | (with_reducible refine Below.trans ?_ (Below.mono hb3 ?_)) | (with_reducible refine Below.trans ?_ (Below.mono hb4 ?_)) | (with_reducible refine Below.trans ?_ (Below.mono hb5 ?_)) | (with_reducible refine Below.trans ?_ (Below.mono hb6 ?_)) | (with_reducible refine Below.trans ?_ (Below.mono hb7 ?_)) | (with_reducible refine Below.trans ?_ (Below.mono hb8 ?_)) | (with_reducible refine Below.trans ?_ (Below.mono hb9 ?_)) | (focus (first | omega | (simp; done) | (simp; omega))) | exact hB))⟩
end Go.Proofs.Ytikjomekhnkgcaa
