import Derived.Test.YtcdnkecgnfdfnaaH3
import Derived.Test.YtcdnkecgnfdfnaaO1
/- The reference's outer step. -/
namespace Go.Proofs.Ytcdnkecgnfdfnaa
open Go.RowKit
attribute [local go_sem ↓] Go.wp_at_zero Go.wp_at_succ

/-- An append that says where the new row lies. -/
theorem app_at {P : Program} {ops : Array Oper} {rest : List Oper} {o : Oper} {a : Act} {Q : Exit → Act → World → Prop} (hgd : o.guard = none) (s x : Operand) (t : TypeId)
    (ho : o.op = .call { callee := .builtin .append, args := #[s, x], argTypes := #[t, t] })
    (e : TypeId) (i : TypeInfo) (z : Value) (ht : P.underlying t = some (.slice e)) (hi : P.info? e = some i) (hz : i.zero = some z) (hsize : i.size = 1) (hby : i.bytes = 8) (hzs : z.cells.size = 1)
    {B : Nat} {wr : World} (hB : B ≤ wr.heap.size) (v : Value) (n : Nat) (xs : List Value) (hs : a.eval s = v) (hown : wr.ownsRow B e 1 v n xs)
    (u : Value) (hx : a.eval x = .slice (some ⟨wr.heap.size, 0, none⟩) 1 1) (h1 : u.oneCell' = true) (hn : n < 1000000) (E : TypeId)
    (h : ∀ v' w', w'.ownsRow B e 1 v' (n + 1) (xs ++ [u]) → wr.grownBy w' v.ownBlock → (v'.ownBlock = v.ownBlock ∨ v'.ownBlock = some (wr.heap.size + 1)) → wpList P ops Q rest (a.put o.dst v') w') :
    wpList P ops Q (o :: rest) a (wr.alloc (.cells #[u] E)) := by
  refine wpList_append_own_at _ hgd s x t ho B e i z 1 8 ht hi hz hsize hby hzs (by decide) v n xs hs (hown.alloc _) ⟨wr.heap.size, 0, none⟩ 1 1 [u] hx rfl ?_ ?_ (by unfold maxLen; omega) (by omega) (by simp; omega) ?_
  · intro j u' hj
    match j, hj with
    | 0, hj =>
      simp at hj; subst hj
      rw [show (⟨wr.heap.size, 0, none⟩ : Addr).add 0 = ⟨wr.heap.size, 0, none⟩ by simp [Addr.add]]
      rw [World.cell?_alloc_at _ _ _ _ rfl]; rfl
  · intro u' hu; simp at hu; subst hu; exact h1
  · intro v' w' hown' hgrow _ hat
    exact h v' w' hown' (gr_trans (gr_alloc (World.grownBy.refl wr _) _) hgrow) (by simpa using hat)
theorem app_i64_at {ops : Array Oper} {rest : List Oper} {o : Oper} {a : Act} {Q : Exit → Act → World → Prop} {s x : Operand}
    {B : Nat} {wr : World} (hB : B ≤ wr.heap.size) {v : Value} {n : Nat} {xs : List Value} (hown : wr.ownsRow B 2 1 v n xs) (hn : n < 1000000)
    (hgd : o.guard = none) (ho : o.op = .call { callee := .builtin .append, args := #[s, x], argTypes := #[45, 45] })
    (hs : a.eval s = v) (u : Value) (H : Nat) (hH : wr.heap.size = H) (hx : a.eval x = .slice (some ⟨H, 0, none⟩) 1 1) (h1 : u.oneCell' = true) {E : TypeId}
    (h : ∀ v' w', w'.ownsRow B 2 1 v' (n + 1) (xs ++ [u]) → wr.grownBy w' v.ownBlock → (v'.ownBlock = v.ownBlock ∨ v'.ownBlock = some (wr.heap.size + 1)) → wpList Try.prog ops Q rest (a.put o.dst v') w') :
    wpList Try.prog ops Q (o :: rest) a (wr.alloc (.cells #[u] E)) := by
  subst hH
  obtain ⟨i0, hi, hz0, hz1, hz2⟩ := info_parts infoI64
  exact app_at hgd s x 45 ho 2 i0 (.int .i64 0) Try.underlying45 hi hz0 hz1 hz2 rfl hB v n xs hs hown u hx h1 hn E h
theorem ownlt {B : Nat} {w : World} {v : Value} {xs : List Int} (h : OwnI B w v xs) : (∀ q, v.ownBlock = some q → B ≤ q ∧ q < w.heap.size) ∧ ∀ b, b < B → some b ≠ v.ownBlock :=
  ⟨World.ownsRow.lt h, fun b hb e => by have := (World.ownsRow.lt h b e.symm).1; omega⟩
theorem form_of {B n : Nat} {e : TypeId} {w : World} {v : Value} {xs : List Value} (h : w.ownsRow B e 1 v (n + 1) xs) : ∃ g c, v = .slice (some ⟨g, 0, none⟩) (n + 1) c ∧ B ≤ g := by
  rcases h.2 with ⟨_, h⟩ | ⟨g, cap, _, e, hb, _⟩
  · omega
  · exact ⟨g, cap, e, hb⟩
/-- An append to a row from block B on leaves what lies below. -/
theorem gr_own {B : Nat} {w w' : World} {row : Option Nat} (h : w.grownBy w' row) (hr : ∀ q, row = some q → B ≤ q ∧ q < w.heap.size) (hB : B ≤ w.heap.size := by omega) : Below B w w' :=
  ⟨h.os, h.tape, h.output, h.size, fun k hk => h.block k (by omega) (fun e => by have := (hr k e.symm).1; omega)⟩
theorem own_kept {B : Nat} {w w' : World} {v : Value} {xs : List Int} {row : Option Nat} (h : OwnI B w v xs) (hg : w.grownBy w' row) (hne : v.ownBlock = none ∨ v.ownBlock ≠ row) : OwnI B w' v xs := World.ownsRow.kept h hg hne
theorem set2_1 {w : World} {g : Nat} {T : TypeId} {a b : Value} (v : Value) (h : w.heap[g]? = some (.cells #[a, b] T (0, 0))) : (w.setCell ⟨g, 1, none⟩ v).heap[g]? = some (.cells #[a, v] T (0, 0)) := by
  simp [World.setCell, Array.getElem?_modify, h]
theorem set2_0 {w : World} {g : Nat} {T : TypeId} {a b : Value} (v : Value) (h : w.heap[g]? = some (.cells #[a, b] T (0, 0))) : (w.setCell ⟨g, 0, none⟩ v).heap[g]? = some (.cells #[v, b] T (0, 0)) := by
  simp [World.setCell, Array.getElem?_modify, h]
/-- k times y and z, as the reference makes it: three calls. -/
theorem mar (k y z : Int) (hk : In64 k) (hy : In64 y) (hz : In64 z) : ∃ P N P2 N2 : Int,
    (∀ W, Calls Try.prog 24 #[.agg #[.int .u64 0, .int .u64 0, .int .u64 0, .int .u64 0, .int .u64 0, .int .u64 0, .int .u64 0, .int .u64 0, .int .u64 0, .int .u64 0, .int .u64 0, .int .u64 0], .int .i64 k, .int .i64 y] W fun e w' => e = .returned (.agg #[.int .u64 (dg 0 (P)), .int .u64 (dg 1 (P)), .int .u64 (dg 2 (P)), .int .u64 (dg 3 (P)), .int .u64 (dg 4 (P)), .int .u64 (dg 5 (P)), .int .u64 (dg 0 (N)), .int .u64 (dg 1 (N)), .int .u64 (dg 2 (N)), .int .u64 (dg 3 (N)), .int .u64 (dg 4 (N)), .int .u64 (dg 5 (N))]) ∧ Below W.heap.size W w') ∧
    (∀ W, Calls Try.prog 25 #[.agg #[.int .u64 (dg 0 (P)), .int .u64 (dg 1 (P)), .int .u64 (dg 2 (P)), .int .u64 (dg 3 (P)), .int .u64 (dg 4 (P)), .int .u64 (dg 5 (P)), .int .u64 (dg 0 (N)), .int .u64 (dg 1 (N)), .int .u64 (dg 2 (N)), .int .u64 (dg 3 (N)), .int .u64 (dg 4 (N)), .int .u64 (dg 5 (N))], .int .i64 z, .int .i64 1] W fun e w' => e = .returned (.agg #[.int .u64 (dg 0 (P2)), .int .u64 (dg 1 (P2)), .int .u64 (dg 2 (P2)), .int .u64 (dg 3 (P2)), .int .u64 (dg 4 (P2)), .int .u64 (dg 5 (P2)), .int .u64 (dg 0 (N2)), .int .u64 (dg 1 (N2)), .int .u64 (dg 2 (N2)), .int .u64 (dg 3 (N2)), .int .u64 (dg 4 (N2)), .int .u64 (dg 5 (N2))]) ∧ Below W.heap.size W w') ∧
    (∀ W, Calls Try.prog 26 #[.agg #[.int .u64 (dg 0 (P2)), .int .u64 (dg 1 (P2)), .int .u64 (dg 2 (P2)), .int .u64 (dg 3 (P2)), .int .u64 (dg 4 (P2)), .int .u64 (dg 5 (P2)), .int .u64 (dg 0 (N2)), .int .u64 (dg 1 (N2)), .int .u64 (dg 2 (N2)), .int .u64 (dg 3 (N2)), .int .u64 (dg 4 (N2)), .int .u64 (dg 5 (N2))], .int .i64 32] W fun e w' => e = .returned (.tuple #[.int .i64 (clampI (axI k y z)), .bool (overI (axI k y z))]) ∧ Below W.heap.size W w') := by
  have b := mul64_bd hk hy
  have pz := pn64 hz
  have pb := pos_neg (k * y)
  have pm : posP (k * y) ≤ 85070591730234615865843651857942052864 ∧ negP (k * y) ≤ 85070591730234615865843651857942052864 := by unfold posP negP; split <;> omega
  refine ⟨posP (k * y), negP (k * y), posP (k * y) + upB 1 (posP z), negP (k * y) + upB 1 (negP z), fun W => smul0_any k y hk hy W, fun W => sadd_any _ _ z 1 hz (by omega) (by omega) W, fun W => ?_⟩
  rw [upB_one, upB_one]
  exact r32_any _ _ (k * y + z * 4294967296) (by unfold BIG; omega) (by unfold BIG; omega) (by omega) W
/-- The same, turned about. -/
theorem marN (k y z : Int) (hk : In64 k) (hy : In64 y) (hz : In64 z) : ∃ P N P2 N2 : Int,
    (∀ W, Calls Try.prog 24 #[.agg #[.int .u64 0, .int .u64 0, .int .u64 0, .int .u64 0, .int .u64 0, .int .u64 0, .int .u64 0, .int .u64 0, .int .u64 0, .int .u64 0, .int .u64 0, .int .u64 0], .int .i64 k, .int .i64 y] W fun e w' => e = .returned (.agg #[.int .u64 (dg 0 (P)), .int .u64 (dg 1 (P)), .int .u64 (dg 2 (P)), .int .u64 (dg 3 (P)), .int .u64 (dg 4 (P)), .int .u64 (dg 5 (P)), .int .u64 (dg 0 (N)), .int .u64 (dg 1 (N)), .int .u64 (dg 2 (N)), .int .u64 (dg 3 (N)), .int .u64 (dg 4 (N)), .int .u64 (dg 5 (N))]) ∧ Below W.heap.size W w') ∧
    (∀ W, Calls Try.prog 25 #[.agg #[.int .u64 (dg 0 (N)), .int .u64 (dg 1 (N)), .int .u64 (dg 2 (N)), .int .u64 (dg 3 (N)), .int .u64 (dg 4 (N)), .int .u64 (dg 5 (N)), .int .u64 (dg 0 (P)), .int .u64 (dg 1 (P)), .int .u64 (dg 2 (P)), .int .u64 (dg 3 (P)), .int .u64 (dg 4 (P)), .int .u64 (dg 5 (P))], .int .i64 z, .int .i64 1] W fun e w' => e = .returned (.agg #[.int .u64 (dg 0 (P2)), .int .u64 (dg 1 (P2)), .int .u64 (dg 2 (P2)), .int .u64 (dg 3 (P2)), .int .u64 (dg 4 (P2)), .int .u64 (dg 5 (P2)), .int .u64 (dg 0 (N2)), .int .u64 (dg 1 (N2)), .int .u64 (dg 2 (N2)), .int .u64 (dg 3 (N2)), .int .u64 (dg 4 (N2)), .int .u64 (dg 5 (N2))]) ∧ Below W.heap.size W w') ∧
    (∀ W, Calls Try.prog 26 #[.agg #[.int .u64 (dg 0 (P2)), .int .u64 (dg 1 (P2)), .int .u64 (dg 2 (P2)), .int .u64 (dg 3 (P2)), .int .u64 (dg 4 (P2)), .int .u64 (dg 5 (P2)), .int .u64 (dg 0 (N2)), .int .u64 (dg 1 (N2)), .int .u64 (dg 2 (N2)), .int .u64 (dg 3 (N2)), .int .u64 (dg 4 (N2)), .int .u64 (dg 5 (N2))], .int .i64 32] W fun e w' => e = .returned (.tuple #[.int .i64 (clampI (axI (-k) y z)), .bool (overI (axI (-k) y z))]) ∧ Below W.heap.size W w') := by
  have b := mul64_bd hk hy
  have pz := pn64 hz
  have pb := pos_neg (k * y)
  have pm : posP (k * y) ≤ 85070591730234615865843651857942052864 ∧ negP (k * y) ≤ 85070591730234615865843651857942052864 := by unfold posP negP; split <;> omega
  refine ⟨posP (k * y), negP (k * y), negP (k * y) + upB 1 (posP z), posP (k * y) + upB 1 (negP z), fun W => smul0_any k y hk hy W, fun W => sadd_any _ _ z 1 hz (by omega) (by omega) W, fun W => ?_⟩
  rw [upB_one, upB_one]
  exact r32_any _ _ (-k * y + z * 4294967296) (by unfold BIG; omega) (by unfold BIG; omega) (by rw [Int.neg_mul]; omega) W
/-- What stands behind k rounds of the outer step. -/
def RSt (w wr : World) (X g : Nat) (c m : Int) (lp lb : List Int) : Prop :=
  ∃ vP vB, wr.heap[X]? = some (.cells #[vP, vB] 47 (0, 0)) ∧ OwnI (X + 1) wr vP lp ∧ OwnI (X + 1) wr vB lb ∧ (vP.ownBlock = none ∨ vP.ownBlock ≠ vB.ownBlock) ∧ w.grownBy wr (some g) ∧ Unr wr g (c + m)
set_option maxHeartbeats 4000000 in
set_option maxRecDepth 100000 in
theorem rstep_any (A B C : Option Addr) (n cp cq cr g : Nat) (op ob gs : List Int) (c r m : Int) (w : World) (hr : 0 ≤ r) (hr1 : r < 9223372036854775808) (hm : 0 ≤ m) (hm1 : m < 4294967296) (hn : n < 1000000)
    (hp : All64 op) (hob : All64 ob) (hgs : All64 gs) (hA : Rd w (some g) A n op) (hB0 : Rd w (some g) B n ob) (hC : Rd w (some g) C n gs) (hU : Unr w g c) (hc0 : 0 ≤ c) (hc : c < 900000000) :
    Calls Try.prog 14 #[.pointer (some ⟨g, 0, none⟩), .int .i64 r, .int .i64 m, .agg #[.slice A n cp, .slice B n cq], .slice C n cr] w fun e w' =>
      ∃ VP VB, e = .returned (.agg #[VP, VB]) ∧ OwnI w.heap.size w' VP (opV r m op ob gs n) ∧ OwnI w.heap.size w' VB (obV m ob gs n) ∧ w.grownBy w' (some g) ∧ Unr w' g (c + ocN r m op ob gs n) := by
  have hmax : n ≤ 9223372036854775807 := by omega
  have hk : In64 m := by unfold In64; omega
  have hk2 : In64 r := by unfold In64; omega
  have hgl := hU.lt
  have HA := Lib.hid hA
  have HB0 := Lib.hid hB0
  have HC := Lib.hid hC
  have HU := Lib.hid hU
  clear hA hB0 hC hU
  go_enter Try.func14, Try.ntmps14
  go_wp2
  refine at_world fun W1 hW1 => ?_
  have b8 : W1.heap[w.heap.size]? = some (.cells #[.slice A n cp, .slice B n cq] 47 (0, 0)) := by
    subst hW1; rw [Below.heap_alloc _ _ _ (by simp; omega), Below.heap_alloc _ _ _ (by simp)]; exact heap_alloc_new w _
  have b10 : W1.heap[w.heap.size + 1]? = some (.cells #[.slice none 0 0, .slice none 0 0] 47 (0, 0)) := by
    subst hW1; rw [Below.heap_alloc _ _ _ (by simp)]; exact newest_at _ _ (by simp)
  have b11 : W1.heap[w.heap.size + 1 + 1]? = some (.cells #[.slice none 0 0, .slice none 0 0] 47 (0, 0)) := by
    subst hW1; exact newest_at _ _ (by simp)
  have z1 : W1.heap.size = w.heap.size + 1 + 1 + 1 := by subst hW1; simp
  have BW : Below w.heap.size w W1 := by subst hW1; exact (by repeat (first | (with_reducible exact Below.refl _ _) | (with_reducible assumption) | (with_reducible refine Below.drew ?_) | (with_reducible refine Below.alloc ?_ ?_ _) | (with_reducible refine Below.setCell ?_ ?_ _) | (with_reducible refine Below.trans ?_ (Below.mono hb ?_)) | (with_reducible refine Below.trans ?_ (Below.mono hb1 ?_)) | (with_reducible refine Below.trans ?_ (Below.mono hb2 ?_)) | (with_reducible refine Below.trans ?_ (Below.mono hb3 ?_)) | (with_reducible refine Below.trans ?_ (Below.mono hb4 ?_)) | (with_reducible refine Below.trans ?_ (Below.mono hb5 ?_)) | (with_reducible refine Below.trans ?_ (Below.mono hb6 ?_)) | (with_reducible refine Below.trans ?_ (Below.mono hb7 ?_)) | (with_reducible refine Below.trans ?_ (Below.mono hb8 ?_)) | (with_reducible refine Below.trans ?_ (Below.mono hb9 ?_)) | (focus (first | omega | (simp; done) | (simp; omega))) | exact hB))
  have Z1 := Lib.hid z1
  have z1' : w.heap.size + 1 + 1 < W1.heap.size := by omega
  have B8 := Lib.hid b8
  have B10 := Lib.hid b10
  have HW := Lib.hid BW
  clear hW1 z1 b8 b10 BW
  go_loopw [12] (fun i wr => ∃ k : Nat, k ≤ n ∧ i = .int .i64 k ∧ wr.heap[w.heap.size]? = some (.cells #[.slice A n cp, .slice B n cq] 47 (0, 0)) ∧ wr.heap[w.heap.size + 1]? = some (.cells #[.slice none 0 0, .slice none 0 0] 47 (0, 0)) ∧ RSt w wr (w.heap.size + 1 + 1) g c (cntI (axV m ob gs) k + cntI (axV m (obV m ob gs n) gs) k + cntI (axV (-r) (odV m ob gs n) op) k) (rowI (axV (-r) (odV m ob gs n) op) k) (rowI (axV m ob gs) k)) (fun i _ => n - (intOf i).toNat)
  case atStart =>
    refine ⟨0, Nat.zero_le _, rfl, B8.out, B10.out, _, _, b11, World.ownsRow_nil _ _ _ _, World.ownsRow_nil _ _ _ _, .inl rfl, gr_below HW.out _, ?_⟩
    simpa [cntI] using HU.out.call HW.out
  case round =>
    clear b11 B8 B10 z1' Z1
    obtain ⟨k, hk0, rfl, b8r, b10r, vP, vB, bX, oP, oB, hne, hG, hV⟩ := hrel
    by_cases hlt : k < n
    · have c1 := cntI_bound (axV m ob gs) k
      have c2 := cntI_bound (axV m (obV m ob gs n) gs) k
      have c3 := cntI_bound (axV (-r) (odV m ob gs n) op) k
      have zr := hG.size
      have HB10r := Lib.hid b10r
      have l10 := lt_of_block b10r
      have rA := HA.out.grown hG
      have rB := HB0.out.grown hG
      have rC := HC.out.grown hG
      obtain ⟨gA, oA, rfl, lA, nA, qA⟩ := rA.2 (by omega)
      obtain ⟨gB, oB', rfl, lB, nB, qB⟩ := rB.2 (by omega)
      obtain ⟨gC, oC, rfl, lC, nC, qC⟩ := rC.2 (by omega)
      replace qA := qA k hlt
      replace qB := qB k hlt
      replace qC := qC k hlt
      obtain ⟨P1, N1, P1', N1', M1, A1, R1⟩ := mar m (ob.getD k 0) (gs.getD k 0) hk (hob k) (hgs k)
      rw [show axI m (ob.getD k 0) (gs.getD k 0) = axV m ob gs k from rfl] at R1
      obtain ⟨P2, N2, P2', N2', M2, A2, R2⟩ := mar m (clampI (axV m ob gs k)) (gs.getD k 0) hk (clampI_in _) (hgs k)
      rw [show axI m (clampI (axV m ob gs k)) (gs.getD k 0) = axV m (obV m ob gs n) gs k by unfold obV; rw [show axV m (rowI (axV m ob gs) n) gs k = axI m ((rowI (axV m ob gs) n).getD k 0) (gs.getD k 0) from rfl, rowI_get _ hlt]] at R2
      obtain ⟨P3, N3, P3', N3', M3, A3, R3⟩ := marN r (clampI (axV m (obV m ob gs n) gs k)) (op.getD k 0) hk2 (clampI_in _) (hp k)
      rw [show axI (-r) (clampI (axV m (obV m ob gs n) gs k)) (op.getD k 0) = axV (-r) (odV m ob gs n) op k by unfold odV; rw [show axV (-r) (rowI (axV m (obV m ob gs n) gs) n) op k = axI (-r) ((rowI (axV m (obV m ob gs n) gs) n).getD k 0) (op.getD k 0) from rfl, rowI_get _ hlt]] at R3
      have HM1 := Lib.hid M1
      have HA1 := Lib.hid A1
      have HR1 := Lib.hid R1
      have HM2 := Lib.hid M2
      have HA2 := Lib.hid A2
      have HR2 := Lib.hid R2
      have HM3 := Lib.hid M3
      have HA3 := Lib.hid A3
      have HR3 := Lib.hid R3
      have HG := Lib.hid hG
      have HV := Lib.hid hV
      have HoP := Lib.hid oP
      have HoB := Lib.hid oB
      have HbX := Lib.hid bX
      have Hne := Lib.hid hne
      have hB0 := cell_of_row wr w.heap.size 0 _ _ _ b8r
      have hB1 := cell_of_row wr w.heap.size 1 _ _ _ b8r
      simp only [List.getElem?_toArray, List.getElem?_cons_zero, List.getElem?_cons_succ] at hB0 hB1
      have HB8r := Lib.hid b8r
      have l8 := lt_of_block b8r
      have lX := lt_of_block bX
      clear M1 A1 R1 M2 A2 R2 M3 A3 R3 hG hV oP oB bX hne b8r b10r rA rB rC HA HB0 HC HU
      have ia : (0 : Int) ≤ (k : Int) := by omega
      have ib : (k : Int) < (n : Int) := by omega
      generalize ob.getD k 0 = y1 at *
      generalize gs.getD k 0 = z1 at *
      generalize op.getD k 0 = z3 at *
      go_wp2_with fail
      refine at_world fun W0 hW0 => ?_
      obtain rfl : W0 = wr := hW0
      have hB := Below.refl W0.heap.size W0
      go_region_held3 (fun w' => Below W0.heap.size W0 w' ∧ ∀ b o, b < W0.heap.size → w'.cell? ⟨b, o, none⟩ = W0.cell? ⟨b, o, none⟩) ((first | (refine sb_call ?_ hb; assumption) | exact sb_of hs | exact sb_of (Below.drew hs) | (refine sb_call ?_ hb1; assumption) | (refine sb_call ?_ hb2; assumption) | (refine sb_call ?_ hb3; assumption) | (refine sb_call ?_ hb4; assumption) | (refine sb_call ?_ hb5; assumption) | (refine sb_call ?_ hb6; assumption) | (refine sb_call ?_ hb7; assumption) | (refine sb_call ?_ hb8; assumption) | (refine sb_call ?_ hb9; assumption) | exact sb_of (by repeat (first | (with_reducible exact Below.refl _ _) | (with_reducible assumption) | (with_reducible refine Below.drew ?_) | (with_reducible refine Below.alloc ?_ ?_ _) | (with_reducible refine Below.setCell ?_ ?_ _) | (with_reducible refine Below.trans ?_ (Below.mono hb ?_)) | (with_reducible refine Below.trans ?_ (Below.mono hb1 ?_)) | (with_reducible refine Below.trans ?_ (Below.mono hb2 ?_)) | (with_reducible refine Below.trans ?_ (Below.mono hb3 ?_)) | (with_reducible refine Below.trans ?_ (Below.mono hb4 ?_)) | (with_reducible refine Below.trans ?_ (Below.mono hb5 ?_)) | (with_reducible refine Below.trans ?_ (Below.mono hb6 ?_)) | (with_reducible refine Below.trans ?_ (Below.mono hb7 ?_)) | (with_reducible refine Below.trans ?_ (Below.mono hb8 ?_)) | (with_reducible refine Below.trans ?_ (Below.mono hb9 ?_)) | (focus (first | omega | (simp; done) | (simp; omega))) | exact hB))))
        (first
          | (go_at_call 24; refine (HM1.out _).mono ?_; rintro e wk ⟨rfl, hb⟩; (try (have hs := sb_below (by assumption) hb; have hzs := Below.size hs)); (try (first | have q1 := Bt.call q1 hb | have q1 := Bt.call (Bt.drew q1) hb)); (try (first | have q2 := Bt.call q2 hb | have q2 := Bt.call (Bt.drew q2) hb)); (try (first | have q3 := Bt.call q3 hb | have q3 := Bt.call (Bt.drew q3) hb)); (try (first | have q4 := Bt.call q4 hb | have q4 := Bt.call (Bt.drew q4) hb)); (try (first | have q5 := Bt.call q5 hb | have q5 := Bt.call (Bt.drew q5) hb)); (try (first | have q6 := Bt.call q6 hb | have q6 := Bt.call (Bt.drew q6) hb)); (try (first | have q7 := Bt.call q7 hb | have q7 := Bt.call (Bt.drew q7) hb)); (try (first | have q8 := Bt.call q8 hb | have q8 := Bt.call (Bt.drew q8) hb)); (try (first | have q9 := Bt.call q9 hb | have q9 := Bt.call (Bt.drew q9) hb)); (try (first | (have x1 := Cl.call x1 hb; have d1 := x1.2) | (have x1 := Cl.call (Cl.drew x1) hb; have d1 := x1.2))); (try (first | (have x2 := Cl.call x2 hb; have d2 := x2.2) | (have x2 := Cl.call (Cl.drew x2) hb; have d2 := x2.2))); (try (first | (have x3 := Cl.call x3 hb; have d3 := x3.2) | (have x3 := Cl.call (Cl.drew x3) hb; have d3 := x3.2))); (try (first | (have x4 := Cl.call x4 hb; have d4 := x4.2) | (have x4 := Cl.call (Cl.drew x4) hb; have d4 := x4.2))); (try (first | (have x5 := Cl.call x5 hb; have d5 := x5.2) | (have x5 := Cl.call (Cl.drew x5) hb; have d5 := x5.2))); (try (first | (have x6 := Cl.call x6 hb; have d6 := x6.2) | (have x6 := Cl.call (Cl.drew x6) hb; have d6 := x6.2))); (try (first | have hB := Below.trans hB (Below.mono hb (by have := hB.size; first | omega | (simp; done) | (simp; omega))) | have hB := Below.trans (Below.drew hB) (Below.mono hb (by have := hB.size; first | omega | (simp; done) | (simp; omega))))); (try have hz := Below.size hB))
          | (go_at_call 25; refine (HA1.out _).mono ?_; rintro e wk ⟨rfl, hb⟩; (try (have hs := sb_below (by assumption) hb; have hzs := Below.size hs)); (try (first | have q1 := Bt.call q1 hb | have q1 := Bt.call (Bt.drew q1) hb)); (try (first | have q2 := Bt.call q2 hb | have q2 := Bt.call (Bt.drew q2) hb)); (try (first | have q3 := Bt.call q3 hb | have q3 := Bt.call (Bt.drew q3) hb)); (try (first | have q4 := Bt.call q4 hb | have q4 := Bt.call (Bt.drew q4) hb)); (try (first | have q5 := Bt.call q5 hb | have q5 := Bt.call (Bt.drew q5) hb)); (try (first | have q6 := Bt.call q6 hb | have q6 := Bt.call (Bt.drew q6) hb)); (try (first | have q7 := Bt.call q7 hb | have q7 := Bt.call (Bt.drew q7) hb)); (try (first | have q8 := Bt.call q8 hb | have q8 := Bt.call (Bt.drew q8) hb)); (try (first | have q9 := Bt.call q9 hb | have q9 := Bt.call (Bt.drew q9) hb)); (try (first | (have x1 := Cl.call x1 hb; have d1 := x1.2) | (have x1 := Cl.call (Cl.drew x1) hb; have d1 := x1.2))); (try (first | (have x2 := Cl.call x2 hb; have d2 := x2.2) | (have x2 := Cl.call (Cl.drew x2) hb; have d2 := x2.2))); (try (first | (have x3 := Cl.call x3 hb; have d3 := x3.2) | (have x3 := Cl.call (Cl.drew x3) hb; have d3 := x3.2))); (try (first | (have x4 := Cl.call x4 hb; have d4 := x4.2) | (have x4 := Cl.call (Cl.drew x4) hb; have d4 := x4.2))); (try (first | (have x5 := Cl.call x5 hb; have d5 := x5.2) | (have x5 := Cl.call (Cl.drew x5) hb; have d5 := x5.2))); (try (first | (have x6 := Cl.call x6 hb; have d6 := x6.2) | (have x6 := Cl.call (Cl.drew x6) hb; have d6 := x6.2))); (try (first | have hB := Below.trans hB (Below.mono hb (by have := hB.size; first | omega | (simp; done) | (simp; omega))) | have hB := Below.trans (Below.drew hB) (Below.mono hb (by have := hB.size; first | omega | (simp; done) | (simp; omega))))); (try have hz := Below.size hB))
          | (go_at_call 26; refine (HR1.out _).mono ?_; rintro e wk ⟨rfl, hb⟩; (try (have hs := sb_below (by assumption) hb; have hzs := Below.size hs)); (try (first | have q1 := Bt.call q1 hb | have q1 := Bt.call (Bt.drew q1) hb)); (try (first | have q2 := Bt.call q2 hb | have q2 := Bt.call (Bt.drew q2) hb)); (try (first | have q3 := Bt.call q3 hb | have q3 := Bt.call (Bt.drew q3) hb)); (try (first | have q4 := Bt.call q4 hb | have q4 := Bt.call (Bt.drew q4) hb)); (try (first | have q5 := Bt.call q5 hb | have q5 := Bt.call (Bt.drew q5) hb)); (try (first | have q6 := Bt.call q6 hb | have q6 := Bt.call (Bt.drew q6) hb)); (try (first | have q7 := Bt.call q7 hb | have q7 := Bt.call (Bt.drew q7) hb)); (try (first | have q8 := Bt.call q8 hb | have q8 := Bt.call (Bt.drew q8) hb)); (try (first | have q9 := Bt.call q9 hb | have q9 := Bt.call (Bt.drew q9) hb)); (try (first | (have x1 := Cl.call x1 hb; have d1 := x1.2) | (have x1 := Cl.call (Cl.drew x1) hb; have d1 := x1.2))); (try (first | (have x2 := Cl.call x2 hb; have d2 := x2.2) | (have x2 := Cl.call (Cl.drew x2) hb; have d2 := x2.2))); (try (first | (have x3 := Cl.call x3 hb; have d3 := x3.2) | (have x3 := Cl.call (Cl.drew x3) hb; have d3 := x3.2))); (try (first | (have x4 := Cl.call x4 hb; have d4 := x4.2) | (have x4 := Cl.call (Cl.drew x4) hb; have d4 := x4.2))); (try (first | (have x5 := Cl.call x5 hb; have d5 := x5.2) | (have x5 := Cl.call (Cl.drew x5) hb; have d5 := x5.2))); (try (first | (have x6 := Cl.call x6 hb; have d6 := x6.2) | (have x6 := Cl.call (Cl.drew x6) hb; have d6 := x6.2))); (try (first | have hB := Below.trans hB (Below.mono hb (by have := hB.size; first | omega | (simp; done) | (simp; omega))) | have hB := Below.trans (Below.drew hB) (Below.mono hb (by have := hB.size; first | omega | (simp; done) | (simp; omega))))); (try have hz := Below.size hB)))
      go_wp2_with fail
      refine (rtake_any g _ _ _ _ (HV.out.call hB) (by omega) (by omega)).mono ?_
      rintro e w4 ⟨rfl, hg4, hV4⟩
      have G4 := gr_trans (gr_below hB (some g)) hg4
      have z4 := G4.size
      have q4 := (gr_cell G4 lC nC).trans qC
      have l4 : gC < w4.heap.size := by omega
      have o1 := ov_01 (overI (axV m ob gs k))
      clear hB hg4 qB qC
      go_wp2_with fail
      refine at_world fun W0 hW0 => ?_
      obtain rfl : W0 = w4 := hW0
      have hB := Below.refl W0.heap.size W0
      go_region_held3 (fun w' => Below W0.heap.size W0 w' ∧ ∀ b o, b < W0.heap.size → w'.cell? ⟨b, o, none⟩ = W0.cell? ⟨b, o, none⟩) ((first | (refine sb_call ?_ hb; assumption) | exact sb_of hs | exact sb_of (Below.drew hs) | (refine sb_call ?_ hb1; assumption) | (refine sb_call ?_ hb2; assumption) | (refine sb_call ?_ hb3; assumption) | (refine sb_call ?_ hb4; assumption) | (refine sb_call ?_ hb5; assumption) | (refine sb_call ?_ hb6; assumption) | (refine sb_call ?_ hb7; assumption) | (refine sb_call ?_ hb8; assumption) | (refine sb_call ?_ hb9; assumption) | exact sb_of (by repeat (first | (with_reducible exact Below.refl _ _) | (with_reducible assumption) | (with_reducible refine Below.drew ?_) | (with_reducible refine Below.alloc ?_ ?_ _) | (with_reducible refine Below.setCell ?_ ?_ _) | (with_reducible refine Below.trans ?_ (Below.mono hb ?_)) | (with_reducible refine Below.trans ?_ (Below.mono hb1 ?_)) | (with_reducible refine Below.trans ?_ (Below.mono hb2 ?_)) | (with_reducible refine Below.trans ?_ (Below.mono hb3 ?_)) | (with_reducible refine Below.trans ?_ (Below.mono hb4 ?_)) | (with_reducible refine Below.trans ?_ (Below.mono hb5 ?_)) | (with_reducible refine Below.trans ?_ (Below.mono hb6 ?_)) | (with_reducible refine Below.trans ?_ (Below.mono hb7 ?_)) | (with_reducible refine Below.trans ?_ (Below.mono hb8 ?_)) | (with_reducible refine Below.trans ?_ (Below.mono hb9 ?_)) | (focus (first | omega | (simp; done) | (simp; omega))) | exact hB))))
        (first
          | (go_at_call 24; refine (HM2.out _).mono ?_; rintro e wk ⟨rfl, hb⟩; (try (have hs := sb_below (by assumption) hb; have hzs := Below.size hs)); (try (first | have q1 := Bt.call q1 hb | have q1 := Bt.call (Bt.drew q1) hb)); (try (first | have q2 := Bt.call q2 hb | have q2 := Bt.call (Bt.drew q2) hb)); (try (first | have q3 := Bt.call q3 hb | have q3 := Bt.call (Bt.drew q3) hb)); (try (first | have q4 := Bt.call q4 hb | have q4 := Bt.call (Bt.drew q4) hb)); (try (first | have q5 := Bt.call q5 hb | have q5 := Bt.call (Bt.drew q5) hb)); (try (first | have q6 := Bt.call q6 hb | have q6 := Bt.call (Bt.drew q6) hb)); (try (first | have q7 := Bt.call q7 hb | have q7 := Bt.call (Bt.drew q7) hb)); (try (first | have q8 := Bt.call q8 hb | have q8 := Bt.call (Bt.drew q8) hb)); (try (first | have q9 := Bt.call q9 hb | have q9 := Bt.call (Bt.drew q9) hb)); (try (first | (have x1 := Cl.call x1 hb; have d1 := x1.2) | (have x1 := Cl.call (Cl.drew x1) hb; have d1 := x1.2))); (try (first | (have x2 := Cl.call x2 hb; have d2 := x2.2) | (have x2 := Cl.call (Cl.drew x2) hb; have d2 := x2.2))); (try (first | (have x3 := Cl.call x3 hb; have d3 := x3.2) | (have x3 := Cl.call (Cl.drew x3) hb; have d3 := x3.2))); (try (first | (have x4 := Cl.call x4 hb; have d4 := x4.2) | (have x4 := Cl.call (Cl.drew x4) hb; have d4 := x4.2))); (try (first | (have x5 := Cl.call x5 hb; have d5 := x5.2) | (have x5 := Cl.call (Cl.drew x5) hb; have d5 := x5.2))); (try (first | (have x6 := Cl.call x6 hb; have d6 := x6.2) | (have x6 := Cl.call (Cl.drew x6) hb; have d6 := x6.2))); (try (first | have hB := Below.trans hB (Below.mono hb (by have := hB.size; first | omega | (simp; done) | (simp; omega))) | have hB := Below.trans (Below.drew hB) (Below.mono hb (by have := hB.size; first | omega | (simp; done) | (simp; omega))))); (try have hz := Below.size hB))
          | (go_at_call 25; refine (HA2.out _).mono ?_; rintro e wk ⟨rfl, hb⟩; (try (have hs := sb_below (by assumption) hb; have hzs := Below.size hs)); (try (first | have q1 := Bt.call q1 hb | have q1 := Bt.call (Bt.drew q1) hb)); (try (first | have q2 := Bt.call q2 hb | have q2 := Bt.call (Bt.drew q2) hb)); (try (first | have q3 := Bt.call q3 hb | have q3 := Bt.call (Bt.drew q3) hb)); (try (first | have q4 := Bt.call q4 hb | have q4 := Bt.call (Bt.drew q4) hb)); (try (first | have q5 := Bt.call q5 hb | have q5 := Bt.call (Bt.drew q5) hb)); (try (first | have q6 := Bt.call q6 hb | have q6 := Bt.call (Bt.drew q6) hb)); (try (first | have q7 := Bt.call q7 hb | have q7 := Bt.call (Bt.drew q7) hb)); (try (first | have q8 := Bt.call q8 hb | have q8 := Bt.call (Bt.drew q8) hb)); (try (first | have q9 := Bt.call q9 hb | have q9 := Bt.call (Bt.drew q9) hb)); (try (first | (have x1 := Cl.call x1 hb; have d1 := x1.2) | (have x1 := Cl.call (Cl.drew x1) hb; have d1 := x1.2))); (try (first | (have x2 := Cl.call x2 hb; have d2 := x2.2) | (have x2 := Cl.call (Cl.drew x2) hb; have d2 := x2.2))); (try (first | (have x3 := Cl.call x3 hb; have d3 := x3.2) | (have x3 := Cl.call (Cl.drew x3) hb; have d3 := x3.2))); (try (first | (have x4 := Cl.call x4 hb; have d4 := x4.2) | (have x4 := Cl.call (Cl.drew x4) hb; have d4 := x4.2))); (try (first | (have x5 := Cl.call x5 hb; have d5 := x5.2) | (have x5 := Cl.call (Cl.drew x5) hb; have d5 := x5.2))); (try (first | (have x6 := Cl.call x6 hb; have d6 := x6.2) | (have x6 := Cl.call (Cl.drew x6) hb; have d6 := x6.2))); (try (first | have hB := Below.trans hB (Below.mono hb (by have := hB.size; first | omega | (simp; done) | (simp; omega))) | have hB := Below.trans (Below.drew hB) (Below.mono hb (by have := hB.size; first | omega | (simp; done) | (simp; omega))))); (try have hz := Below.size hB))
          | (go_at_call 26; refine (HR2.out _).mono ?_; rintro e wk ⟨rfl, hb⟩; (try (have hs := sb_below (by assumption) hb; have hzs := Below.size hs)); (try (first | have q1 := Bt.call q1 hb | have q1 := Bt.call (Bt.drew q1) hb)); (try (first | have q2 := Bt.call q2 hb | have q2 := Bt.call (Bt.drew q2) hb)); (try (first | have q3 := Bt.call q3 hb | have q3 := Bt.call (Bt.drew q3) hb)); (try (first | have q4 := Bt.call q4 hb | have q4 := Bt.call (Bt.drew q4) hb)); (try (first | have q5 := Bt.call q5 hb | have q5 := Bt.call (Bt.drew q5) hb)); (try (first | have q6 := Bt.call q6 hb | have q6 := Bt.call (Bt.drew q6) hb)); (try (first | have q7 := Bt.call q7 hb | have q7 := Bt.call (Bt.drew q7) hb)); (try (first | have q8 := Bt.call q8 hb | have q8 := Bt.call (Bt.drew q8) hb)); (try (first | have q9 := Bt.call q9 hb | have q9 := Bt.call (Bt.drew q9) hb)); (try (first | (have x1 := Cl.call x1 hb; have d1 := x1.2) | (have x1 := Cl.call (Cl.drew x1) hb; have d1 := x1.2))); (try (first | (have x2 := Cl.call x2 hb; have d2 := x2.2) | (have x2 := Cl.call (Cl.drew x2) hb; have d2 := x2.2))); (try (first | (have x3 := Cl.call x3 hb; have d3 := x3.2) | (have x3 := Cl.call (Cl.drew x3) hb; have d3 := x3.2))); (try (first | (have x4 := Cl.call x4 hb; have d4 := x4.2) | (have x4 := Cl.call (Cl.drew x4) hb; have d4 := x4.2))); (try (first | (have x5 := Cl.call x5 hb; have d5 := x5.2) | (have x5 := Cl.call (Cl.drew x5) hb; have d5 := x5.2))); (try (first | (have x6 := Cl.call x6 hb; have d6 := x6.2) | (have x6 := Cl.call (Cl.drew x6) hb; have d6 := x6.2))); (try (first | have hB := Below.trans hB (Below.mono hb (by have := hB.size; first | omega | (simp; done) | (simp; omega))) | have hB := Below.trans (Below.drew hB) (Below.mono hb (by have := hB.size; first | omega | (simp; done) | (simp; omega))))); (try have hz := Below.size hB)))
      go_wp2_with fail
      refine (rtake_any g _ _ _ _ (hV4.call hB) (by omega) (by omega)).mono ?_
      rintro e w5 ⟨rfl, hg5, hV5⟩
      have G5 := gr_trans G4 (gr_trans (gr_below hB (some g)) hg5)
      have z5 := G5.size
      have o2 := ov_01 (overI (axV m (obV m ob gs n) gs k))
      clear hB hg5 G4 q4 l4 hV4
      go_wp2_with (go_at_call 24; refine (HM3.out _).mono ?_; rintro e w6 ⟨rfl, hb6⟩)
      refine at_world fun W2 hW2 => ?_
      have b17 : W2.heap[w6.heap.size]? = some (.cells #[.int .u64 (dg 0 (N3)), .int .u64 (dg 1 (N3)), .int .u64 (dg 2 (N3)), .int .u64 (dg 3 (N3)), .int .u64 (dg 4 (N3)), .int .u64 (dg 5 (N3)), .int .u64 (dg 0 (P3)), .int .u64 (dg 1 (P3)), .int .u64 (dg 2 (P3)), .int .u64 (dg 3 (P3)), .int .u64 (dg 4 (P3)), .int .u64 (dg 5 (P3))] 67 (0, 0)) := by subst hW2; exact heap_alloc_new w6 _
      have BK : Below w5.heap.size w5 W2 := by subst hW2; exact hb6.trans ((Below.refl _ _).alloc hb6.size _)
      clear hW2
      have G6 := gr_call G5 BK
      have z6 := BK.size
      have q6 := (gr_cell G6 lA nA).trans qA
      have b8' := (G6.block w.heap.size l8 (by simp; omega)).trans HB8r.out
      have k17 := lt_of_block b17
      have k18 := lt_of_block b8'
      have l6 : gA < W2.heap.size := by omega
      have u0 := cell_of_row W2 w.heap.size 0 _ _ _ b8'
      generalize w6.heap.size = T17 at *
      have t0 := cell_of_row W2 T17 0 _ _ _ b17
      have t1 := cell_of_row W2 T17 1 _ _ _ b17
      have t2 := cell_of_row W2 T17 2 _ _ _ b17
      have t3 := cell_of_row W2 T17 3 _ _ _ b17
      have t4 := cell_of_row W2 T17 4 _ _ _ b17
      have t5 := cell_of_row W2 T17 5 _ _ _ b17
      have t6 := cell_of_row W2 T17 6 _ _ _ b17
      have t7 := cell_of_row W2 T17 7 _ _ _ b17
      have t8 := cell_of_row W2 T17 8 _ _ _ b17
      have t9 := cell_of_row W2 T17 9 _ _ _ b17
      have t10 := cell_of_row W2 T17 10 _ _ _ b17
      have t11 := cell_of_row W2 T17 11 _ _ _ b17
      simp only [List.getElem?_toArray, List.getElem?_cons_zero, List.getElem?_cons_succ] at u0 t0 t1 t2 t3 t4 t5 t6 t7 t8 t9 t10 t11
      have hV6 := hV5.call BK
      clear b17 b8' hb6 hV5 BK G5
      obtain ⟨W0, hW0⟩ : ∃ W0, W0 = W2 := ⟨_, rfl⟩
      obtain rfl : W0 = W2 := hW0
      have hB := Below.refl W0.heap.size W0
      go_region_held3 (fun w' => Below W0.heap.size W0 w' ∧ ∀ b o, b < W0.heap.size → w'.cell? ⟨b, o, none⟩ = W0.cell? ⟨b, o, none⟩) ((first | (refine sb_call ?_ hb; assumption) | exact sb_of hs | exact sb_of (Below.drew hs) | (refine sb_call ?_ hb1; assumption) | (refine sb_call ?_ hb2; assumption) | (refine sb_call ?_ hb3; assumption) | (refine sb_call ?_ hb4; assumption) | (refine sb_call ?_ hb5; assumption) | (refine sb_call ?_ hb6; assumption) | (refine sb_call ?_ hb7; assumption) | (refine sb_call ?_ hb8; assumption) | (refine sb_call ?_ hb9; assumption) | exact sb_of (by repeat (first | (with_reducible exact Below.refl _ _) | (with_reducible assumption) | (with_reducible refine Below.drew ?_) | (with_reducible refine Below.alloc ?_ ?_ _) | (with_reducible refine Below.setCell ?_ ?_ _) | (with_reducible refine Below.trans ?_ (Below.mono hb ?_)) | (with_reducible refine Below.trans ?_ (Below.mono hb1 ?_)) | (with_reducible refine Below.trans ?_ (Below.mono hb2 ?_)) | (with_reducible refine Below.trans ?_ (Below.mono hb3 ?_)) | (with_reducible refine Below.trans ?_ (Below.mono hb4 ?_)) | (with_reducible refine Below.trans ?_ (Below.mono hb5 ?_)) | (with_reducible refine Below.trans ?_ (Below.mono hb6 ?_)) | (with_reducible refine Below.trans ?_ (Below.mono hb7 ?_)) | (with_reducible refine Below.trans ?_ (Below.mono hb8 ?_)) | (with_reducible refine Below.trans ?_ (Below.mono hb9 ?_)) | (focus (first | omega | (simp; done) | (simp; omega))) | exact hB))))
        (first
          | (go_at_call 25; refine (HA3.out _).mono ?_; rintro e wk ⟨rfl, hb⟩; (try (have hs := sb_below (by assumption) hb; have hzs := Below.size hs)); (try (first | have q1 := Bt.call q1 hb | have q1 := Bt.call (Bt.drew q1) hb)); (try (first | have q2 := Bt.call q2 hb | have q2 := Bt.call (Bt.drew q2) hb)); (try (first | have q3 := Bt.call q3 hb | have q3 := Bt.call (Bt.drew q3) hb)); (try (first | have q4 := Bt.call q4 hb | have q4 := Bt.call (Bt.drew q4) hb)); (try (first | have q5 := Bt.call q5 hb | have q5 := Bt.call (Bt.drew q5) hb)); (try (first | have q6 := Bt.call q6 hb | have q6 := Bt.call (Bt.drew q6) hb)); (try (first | have q7 := Bt.call q7 hb | have q7 := Bt.call (Bt.drew q7) hb)); (try (first | have q8 := Bt.call q8 hb | have q8 := Bt.call (Bt.drew q8) hb)); (try (first | have q9 := Bt.call q9 hb | have q9 := Bt.call (Bt.drew q9) hb)); (try (first | (have x1 := Cl.call x1 hb; have d1 := x1.2) | (have x1 := Cl.call (Cl.drew x1) hb; have d1 := x1.2))); (try (first | (have x2 := Cl.call x2 hb; have d2 := x2.2) | (have x2 := Cl.call (Cl.drew x2) hb; have d2 := x2.2))); (try (first | (have x3 := Cl.call x3 hb; have d3 := x3.2) | (have x3 := Cl.call (Cl.drew x3) hb; have d3 := x3.2))); (try (first | (have x4 := Cl.call x4 hb; have d4 := x4.2) | (have x4 := Cl.call (Cl.drew x4) hb; have d4 := x4.2))); (try (first | (have x5 := Cl.call x5 hb; have d5 := x5.2) | (have x5 := Cl.call (Cl.drew x5) hb; have d5 := x5.2))); (try (first | (have x6 := Cl.call x6 hb; have d6 := x6.2) | (have x6 := Cl.call (Cl.drew x6) hb; have d6 := x6.2))); (try (first | have hB := Below.trans hB (Below.mono hb (by have := hB.size; first | omega | (simp; done) | (simp; omega))) | have hB := Below.trans (Below.drew hB) (Below.mono hb (by have := hB.size; first | omega | (simp; done) | (simp; omega))))); (try have hz := Below.size hB))
          | (go_at_call 26; refine (HR3.out _).mono ?_; rintro e wk ⟨rfl, hb⟩; (try (have hs := sb_below (by assumption) hb; have hzs := Below.size hs)); (try (first | have q1 := Bt.call q1 hb | have q1 := Bt.call (Bt.drew q1) hb)); (try (first | have q2 := Bt.call q2 hb | have q2 := Bt.call (Bt.drew q2) hb)); (try (first | have q3 := Bt.call q3 hb | have q3 := Bt.call (Bt.drew q3) hb)); (try (first | have q4 := Bt.call q4 hb | have q4 := Bt.call (Bt.drew q4) hb)); (try (first | have q5 := Bt.call q5 hb | have q5 := Bt.call (Bt.drew q5) hb)); (try (first | have q6 := Bt.call q6 hb | have q6 := Bt.call (Bt.drew q6) hb)); (try (first | have q7 := Bt.call q7 hb | have q7 := Bt.call (Bt.drew q7) hb)); (try (first | have q8 := Bt.call q8 hb | have q8 := Bt.call (Bt.drew q8) hb)); (try (first | have q9 := Bt.call q9 hb | have q9 := Bt.call (Bt.drew q9) hb)); (try (first | (have x1 := Cl.call x1 hb; have d1 := x1.2) | (have x1 := Cl.call (Cl.drew x1) hb; have d1 := x1.2))); (try (first | (have x2 := Cl.call x2 hb; have d2 := x2.2) | (have x2 := Cl.call (Cl.drew x2) hb; have d2 := x2.2))); (try (first | (have x3 := Cl.call x3 hb; have d3 := x3.2) | (have x3 := Cl.call (Cl.drew x3) hb; have d3 := x3.2))); (try (first | (have x4 := Cl.call x4 hb; have d4 := x4.2) | (have x4 := Cl.call (Cl.drew x4) hb; have d4 := x4.2))); (try (first | (have x5 := Cl.call x5 hb; have d5 := x5.2) | (have x5 := Cl.call (Cl.drew x5) hb; have d5 := x5.2))); (try (first | (have x6 := Cl.call x6 hb; have d6 := x6.2) | (have x6 := Cl.call (Cl.drew x6) hb; have d6 := x6.2))); (try (first | have hB := Below.trans hB (Below.mono hb (by have := hB.size; first | omega | (simp; done) | (simp; omega))) | have hB := Below.trans (Below.drew hB) (Below.mono hb (by have := hB.size; first | omega | (simp; done) | (simp; omega))))); (try have hz := Below.size hB)))
      go_wp2_with fail
      refine (rtake_any g _ _ _ _ (hV6.call hB) (by omega) (by omega)).mono ?_
      rintro e w8 ⟨rfl, hg8, hV8⟩
      have G8 := gr_trans G6 (gr_trans (gr_below hB (some g)) hg8)
      have z8 := G8.size
      have bX8 := (G8.block _ lX (by simp; omega)).trans HbX.out
      have oP8 := HoP.out.grown G8 (by rintro _ ⟨⟩; omega)
      have oB8 := HoB.out.grown G8 (by rintro _ ⟨⟩; omega)
      have x0 := cell_of_row w8 (w.heap.size + 1 + 1) 0 _ _ _ bX8
      have x1 := cell_of_row w8 (w.heap.size + 1 + 1) 1 _ _ _ bX8
      have xf : ∀ i, w8.frozen? ⟨w.heap.size + 1 + 1, i, none⟩ = false := fun i => by simp [World.frozen?, bX8]
      simp only [List.getElem?_toArray, List.getElem?_cons_zero, List.getElem?_cons_succ] at x0 x1
      have lX8 := lt_of_block bX8
      have BX8 := Lib.hid bX8
      clear bX8 hB hg8 hV6 G6 q6 u0 t0 t1 t2 t3 t4 t5 t6 t7 t8 t9 t10 t11
      have E1 := ownlt oB8
      have tok1 : True := trivial
      go_wp2_with (first
        | (at_builtin; have _t := tok1; refine app_i64_at (B := w.heap.size + 1 + 1 + 1) (by omega) (own_rowI oB8) (by omega) rfl rfl rfl _ _ rfl rfl rfl ?_; intro vB' w9 hownB hgB hatB; clear tok1 _t; obtain ⟨gq, cq', rfl, lq⟩ := form_of hownB; have G9 := gr_own hgB E1.1; have z9 := hgB.size; have bX9 := (hgB.block _ lX8 (E1.2 _ (Nat.lt_succ_self _))).trans BX8.out; have y0 := cell_of_row w9 (w.heap.size + 1 + 1) 0 _ _ _ bX9; have y1 := cell_of_row w9 (w.heap.size + 1 + 1) 1 _ _ _ bX9; have yf : ∀ i, w9.frozen? ⟨w.heap.size + 1 + 1, i, none⟩ = false := (fun i => by simp [World.frozen?, bX9]); simp only [List.getElem?_toArray, List.getElem?_cons_zero, List.getElem?_cons_succ] at y0 y1; have HO9 := Lib.hid hownB; have HX9 := Lib.hid bX9; have lX9 := lt_of_block bX9; clear bX9 hownB x0 x1 xf)
        | (at_builtin; refine app_i64_at (B := w.heap.size + 1 + 1 + 1) (by simp; omega) (own_rowI ((own_kept oP8 hgB Hne.out).setBelow (Nat.lt_succ_self _) _)) (by omega) rfl rfl rfl _ w9.heap.size (by simp) rfl rfl ?_; intro vP' w10 hownP hgP hatP; obtain ⟨gp, cp', rfl, lp⟩ := form_of hownP; have E2 := ownlt ((own_kept oP8 hgB Hne.out).setBelow (p := ⟨w.heap.size + 1 + 1, 1, none⟩) (Nat.lt_succ_self _) (.slice (some ⟨gq, 0, none⟩) (k + 1) cq')); have bX10 := (hgP.block (w.heap.size + 1 + 1) (by simp; omega) (E2.2 _ (Nat.lt_succ_self _))).trans (set2_1 _ HX9.out); have v0 := cell_of_row w10 (w.heap.size + 1 + 1) 0 _ _ _ bX10; have v1 := cell_of_row w10 (w.heap.size + 1 + 1) 1 _ _ _ bX10; have vf : ∀ i, w10.frozen? ⟨w.heap.size + 1 + 1, i, none⟩ = false := (fun i => by simp [World.frozen?, bX10]); simp only [List.getElem?_toArray, List.getElem?_cons_zero, List.getElem?_cons_succ] at v0 v1; have HX10 := Lib.hid bX10; have lX10 := lt_of_block bX10; clear bX10 y0 y1 yf))
      have z10 := hgP.size
      simp at z10
      have G10 := gr_own hgP E2.1 (by simp; omega)
      go_roundw
      case rel =>
        have hq : vP.ownBlock = none ∨ vP.ownBlock ≠ some gq := by
          rcases hatB with e | e
          · simp only [Value.ownBlock] at e; rw [e]; exact Hne.out
          · right; intro e2
            simp only [Value.ownBlock] at e
            rw [e] at e2
            have := (ownlt oP8).1 _ e2
            omega
        have oB11 : OwnI (w.heap.size + 1 + 1 + 1) ((w10).setCell ⟨w.heap.size + 1 + 1, 0, none⟩ (.slice (some ⟨gp, 0, none⟩) (k + 1) cp')) (.slice (some ⟨gq, 0, none⟩) (k + 1) cq') (rowI (axV m ob gs) (k + 1)) :=
          (own_kept ((own_nextI HO9.out).setBelow (p := ⟨w.heap.size + 1 + 1, 1, none⟩) (Nat.lt_succ_self _) _) hgP (.inr (by
            rcases hq with e | e
            · rw [e]; simp [Value.ownBlock]
            · exact fun e2 => e e2.symm))).setBelow (Nat.lt_succ_self _) _
        refine ⟨k + 1, by omega, by simp, ?_, ?_, _, _, set2_0 _ HX10.out, (own_nextI hownP).setBelow (Nat.lt_succ_self _) _, oB11, ?_, ?_, ?_⟩
        · rw [Below.heap_setCell _ _ _ _ (by simp; omega), G10.block _ (by omega), Below.heap_setCell _ _ _ _ (by simp; omega), G9.block _ (by omega), G8.block _ l8 (by simp; omega)]
          exact HB8r.out
        · rw [Below.heap_setCell _ _ _ _ (by simp), G10.block _ (by omega), Below.heap_setCell _ _ _ _ (by simp), G9.block _ (by omega), G8.block _ l10 (by simp; omega)]
          exact HB10r.out
        · rcases hatP with e | e
          · simp only [Value.ownBlock] at e ⊢
            rw [e]; exact hq
          · right
            simp only [Value.ownBlock] at e ⊢
            rw [e]
            have := (World.ownsRow.lt HO9.out gq rfl).2
            simp
            omega
        · exact gr_low (gr_trans HG.out G8) ((((G9.mono (by omega)).trans (bel_d w.heap.size w9 ⟨w.heap.size + 1 + 1, 1, none⟩ _ (by show w.heap.size ≤ w.heap.size + 1 + 1; omega))).trans (G10.mono (by omega))).trans (bel_d w.heap.size w10 ⟨w.heap.size + 1 + 1, 0, none⟩ _ (by show w.heap.size ≤ w.heap.size + 1 + 1; omega)))
        · have e : c + (cntI (axV m ob gs) (k + 1) + cntI (axV m (obV m ob gs n) gs) (k + 1) + cntI (axV (-r) (odV m ob gs n) op) (k + 1)) = c + (cntI (axV m ob gs) k + cntI (axV m (obV m ob gs n) gs) k + cntI (axV (-r) (odV m ob gs n) op) k) + ov (overI (axV m ob gs k)) + ov (overI (axV m (obV m ob gs n) gs k)) + ov (overI (axV (-r) (odV m ob gs n) op k)) := by
            simp only [cntI]; omega
          rw [e]
          exact ((((hV8.low G9 (by omega)).low (bel_d w.heap.size w9 ⟨w.heap.size + 1 + 1, 1, none⟩ _ (by show w.heap.size ≤ w.heap.size + 1 + 1; omega)) (by omega)).low G10 (by omega)).low (bel_d w.heap.size w10 ⟨w.heap.size + 1 + 1, 0, none⟩ _ (by show w.heap.size ≤ w.heap.size + 1 + 1; omega)) (by omega))
      case measure => simp [intOf]; omega
    · obtain rfl : k = n := by omega
      obtain ⟨AP, cP, rfl, _⟩ := oP.rd (u := none) (by rintro _ ⟨⟩)
      obtain ⟨AB, cB, rfl, _⟩ := oB.rd (u := none) (by rintro _ ⟨⟩)
      simp only [rowI_length] at oP oB bX
      have x0 := cell_of_row wr (w.heap.size + 1 + 1) 0 _ _ _ bX
      have x1 := cell_of_row wr (w.heap.size + 1 + 1) 1 _ _ _ bX
      have r0 := cell_of_row wr (w.heap.size + 1) 0 _ _ _ b10r
      have r1 := cell_of_row wr (w.heap.size + 1) 1 _ _ _ b10r
      have rf : ∀ i, wr.frozen? ⟨w.heap.size + 1, i, none⟩ = false := fun i => by simp [World.frozen?, b10r]
      simp only [List.getElem?_toArray, List.getElem?_cons_zero, List.getElem?_cons_succ] at x0 x1 r0 r1
      have lX := lt_of_block bX
      have l10 := lt_of_block b10r
      have BO := (bel_d (w.heap.size + 1) wr ⟨w.heap.size + 1, 0, none⟩ (.slice AP k cP) (Nat.le_refl _)).trans (bel_d (w.heap.size + 1) _ ⟨w.heap.size + 1, 1, none⟩ (.slice AB k cB) (Nat.le_refl _))
      have QP := ((oP.setBelow (p := ⟨w.heap.size + 1, 0, none⟩) (by show w.heap.size + 1 < _; omega) (.slice AP k cP)).setBelow (p := ⟨w.heap.size + 1, 1, none⟩) (by show w.heap.size + 1 < _; omega) (.slice AB k cB)).base (B := w.heap.size) (by omega)
      have QB := ((oB.setBelow (p := ⟨w.heap.size + 1, 0, none⟩) (by show w.heap.size + 1 < _; omega) (.slice AP k cP)).setBelow (p := ⟨w.heap.size + 1, 1, none⟩) (by show w.heap.size + 1 < _; omega) (.slice AB k cB)).base (B := w.heap.size) (by omega)
      have GO := gr_low hG (BO.mono (by omega))
      have VO := hV.low BO (by omega)
      clear oP oB bX b10r b8r BO hG hV hne HA HB0 HC HU
      go_wp2
      exact bodyPost_ret (v := .agg #[.slice AP k cP, .slice AB k cB]) (by simp [*, results, Try.results14, go_sem]) rfl ⟨_, _, rfl, QP, QB, GO, VO⟩
end Go.Proofs.Ytcdnkecgnfdfnaa
