import Derived.Test.YtikjomekhnkgcaaMC
import Derived.Test.YtikjomekhnkgcaaGNum
import Derived.StillTailTactics
/- The reference's great numbers: Plus. -/
namespace Go.Proofs.Ytikjomekhnkgcaa
open Go.RowKit
attribute [local go_sem ↓] Go.wp_at_zero Go.wp_at_succ

/-- Six digits in a block. -/
def Dg (w : World) (g : Nat) (x : Int) : Prop := g < w.heap.size ∧ ∀ k, k < 6 → w.cell? ⟨g, k, none⟩ = some (.int .u64 (dg k x))
/-- A block that is being filled from below: k digits, then noughts. -/
def upL (k : Nat) (x : Int) : Array Value := ((List.range 6).map fun i => .int .u64 (if i < k then dg i x else 0)).toArray
/-- .. from above: noughts, then the digits from k on. -/
def dnL (k : Nat) (x : Int) : Array Value := ((List.range 6).map fun i => .int .u64 (if k ≤ i then dg i x else 0)).toArray
theorem upL_zero (x : Int) : upL 0 x = #[.int .u64 0, .int .u64 0, .int .u64 0, .int .u64 0, .int .u64 0, .int .u64 0] := rfl
theorem upL_six (x : Int) : upL 6 x = #[.int .u64 (dg 0 (x)), .int .u64 (dg 1 (x)), .int .u64 (dg 2 (x)), .int .u64 (dg 3 (x)), .int .u64 (dg 4 (x)), .int .u64 (dg 5 (x))] := rfl
theorem dnL_six (x : Int) : dnL 6 x = #[.int .u64 0, .int .u64 0, .int .u64 0, .int .u64 0, .int .u64 0, .int .u64 0] := rfl
theorem dnL_zero (x : Int) : dnL 0 x = #[.int .u64 (dg 0 (x)), .int .u64 (dg 1 (x)), .int .u64 (dg 2 (x)), .int .u64 (dg 3 (x)), .int .u64 (dg 4 (x)), .int .u64 (dg 5 (x))] := rfl
theorem upL_set (k : Nat) (x : Int) (h : k < 6) : (upL k x).setIfInBounds k (.int .u64 (dg k x)) = upL (k + 1) x := by
  match k, h with
  | 0, _ => rfl
  | 1, _ => rfl
  | 2, _ => rfl
  | 3, _ => rfl
  | 4, _ => rfl
  | 5, _ => rfl
theorem dnL_set (k : Nat) (x : Int) (h : k < 6) : (dnL (k + 1) x).setIfInBounds k (.int .u64 (dg k x)) = dnL k x := by
  match k, h with
  | 0, _ => rfl
  | 1, _ => rfl
  | 2, _ => rfl
  | 3, _ => rfl
  | 4, _ => rfl
  | 5, _ => rfl
section
variable {w w' : World} {g : Nat} {x : Int}
theorem Dg.call (h : Dg w g x) (hb : Below w.heap.size w w') : Dg w' g x := ⟨by have := hb.size; have := h.1; omega, fun k hk => (hb.cell (p := ⟨g, k, none⟩) h.1).trans (h.2 k hk)⟩
theorem Dg.of {t : TypeId} (h : w.heap[g]? = some (.cells #[.int .u64 (dg 0 (x)), .int .u64 (dg 1 (x)), .int .u64 (dg 2 (x)), .int .u64 (dg 3 (x)), .int .u64 (dg 4 (x)), .int .u64 (dg 5 (x))] t (0, 0))) : Dg w g x :=
  ⟨lt_of_block h, fun k hk => by
    have : w.cell? ⟨g, k, none⟩ = (#[.int .u64 (dg 0 (x)), .int .u64 (dg 1 (x)), .int .u64 (dg 2 (x)), .int .u64 (dg 3 (x)), .int .u64 (dg 4 (x)), .int .u64 (dg 5 (x))])[k]? := by simp [World.cell?, h]
    rw [this]
    match k, hk with
    | 0, _ => rfl
    | 1, _ => rfl
    | 2, _ => rfl
    | 3, _ => rfl
    | 4, _ => rfl
    | 5, _ => rfl⟩
theorem fill_get {cs : Array Value} {t : TypeId} {k : Nat} (h : w.heap[g]? = some (.cells cs t (0, 0))) (hk : k < cs.size) : (∃ v, w.cell? ⟨g, k, none⟩ = some v) ∧ w.frozen? ⟨g, k, none⟩ = false ∧
    ∀ v, (w.setCell ⟨g, k, none⟩ v).heap[g]? = some (.cells (cs.setIfInBounds k v) t (0, 0)) := by
  refine ⟨⟨cs[k], by simp [World.cell?, h, Array.getElem?_eq_getElem hk]⟩, by simp [World.frozen?, h], fun v => ?_⟩
  simp [World.setCell, Array.getElem?_modify, h]
end
theorem Dg.low {w w' : World} {g B : Nat} {x : Int} (h : Dg w g x) (hb : Below B w w') (hg : g < B) : Dg w' g x := ⟨by have := hb.size; have := h.1; omega, fun k hk => (hb.cell (p := ⟨g, k, none⟩) hg).trans (h.2 k hk)⟩
theorem bel_dn (B : Nat) (w : World) (n : Nat) (p : Addr) (v : Value) (hp : B ≤ p.block) : Below B w ((w.drewN n).setCell p v) :=
  ⟨rfl, rfl, rfl, by simp [World.setCell], fun i hi => Below.heap_setCell (w.drewN n) p v i (by omega)⟩
theorem bel_d (B : Nat) (w : World) (p : Addr) (v : Value) (hp : B ≤ p.block) : Below B w (w.setCell p v) := (Below.refl _ _).setCell hp v
theorem upL_size (k : Nat) (x : Int) : (upL k x).size = 6 := by simp [upL]
theorem dnL_size (k : Nat) (x : Int) : (dnL k x).size = 6 := by simp [dnL]

set_option maxHeartbeats 1000000 in
theorem plus_any (a b : Int) (w : World) : Calls Try.prog 102 #[.agg #[.int .u64 (dg 0 (a)), .int .u64 (dg 1 (a)), .int .u64 (dg 2 (a)), .int .u64 (dg 3 (a)), .int .u64 (dg 4 (a)), .int .u64 (dg 5 (a))], .agg #[.int .u64 (dg 0 (b)), .int .u64 (dg 1 (b)), .int .u64 (dg 2 (b)), .int .u64 (dg 3 (b)), .int .u64 (dg 4 (b)), .int .u64 (dg 5 (b))]] w fun e w' => e = .returned (.agg #[.int .u64 (dg 0 (a + b)), .int .u64 (dg 1 (a + b)), .int .u64 (dg 2 (a + b)), .int .u64 (dg 3 (a + b)), .int .u64 (dg 4 (a + b)), .int .u64 (dg 5 (a + b))]) ∧ Below w.heap.size w w' := by
  go_enter Try.func102, Try.ntmps102
  go_wp2
  go_loopw [6, 7] (fun c i wr => ∃ k : Nat, k ≤ 6 ∧ i = .int .i64 k ∧ c = .int .u64 (cyI k a b) ∧ Dg wr w.heap.size a ∧ Dg wr (w.heap.size + 1) b ∧
      wr.heap[w.heap.size + 1 + 1]? = some (.cells (upL 0 a) 102 (0, 0)) ∧ wr.heap[w.heap.size + 1 + 1 + 1]? = some (.cells (upL k (a + b)) 102 (0, 0)) ∧ Below w.heap.size w wr) (fun _ i _ => 6 - (intOf i).toNat)
  case atStart =>
    have h0 : (w.alloc (.cells #[.int .u64 (dg 0 (a)), .int .u64 (dg 1 (a)), .int .u64 (dg 2 (a)), .int .u64 (dg 3 (a)), .int .u64 (dg 4 (a)), .int .u64 (dg 5 (a))] 102)).heap[w.heap.size]? = some (.cells #[.int .u64 (dg 0 (a)), .int .u64 (dg 1 (a)), .int .u64 (dg 2 (a)), .int .u64 (dg 3 (a)), .int .u64 (dg 4 (a)), .int .u64 (dg 5 (a))] 102 (0, 0)) := heap_alloc_new w _
    have h1 : ((w.alloc (.cells #[.int .u64 (dg 0 (a)), .int .u64 (dg 1 (a)), .int .u64 (dg 2 (a)), .int .u64 (dg 3 (a)), .int .u64 (dg 4 (a)), .int .u64 (dg 5 (a))] 102)).alloc (.cells #[.int .u64 (dg 0 (b)), .int .u64 (dg 1 (b)), .int .u64 (dg 2 (b)), .int .u64 (dg 3 (b)), .int .u64 (dg 4 (b)), .int .u64 (dg 5 (b))] 102)).heap[w.heap.size + 1]? = some (.cells #[.int .u64 (dg 0 (b)), .int .u64 (dg 1 (b)), .int .u64 (dg 2 (b)), .int .u64 (dg 3 (b)), .int .u64 (dg 4 (b)), .int .u64 (dg 5 (b))] 102 (0, 0)) := newest_at _ _ (by simp)
    refine ⟨0, by omega, rfl, by rw [cy_zero], ?_, ?_, ?_, ?_, (by repeat (first | (with_reducible exact Below.refl _ _) | (with_reducible assumption) | (with_reducible refine Below.drew ?_) | (with_reducible refine Below.alloc ?_ ?_ _) | (with_reducible refine Below.setCell ?_ ?_ _) | (with_reducible refine Below.trans ?_ (Below.mono hb ?_)) | (with_reducible refine Below.trans ?_ (Below.mono hb1 ?_)) | (with_reducible refine Below.trans ?_ (Below.mono hb2 ?_)) | (with_reducible refine Below.trans ?_ (Below.mono hb3 ?_)) | (with_reducible refine Below.trans ?_ (Below.mono hb4 ?_)) | (with_reducible refine Below.trans ?_ (Below.mono hb5 ?_)) | (with_reducible refine Below.trans ?_ (Below.mono hb6 ?_)) | (with_reducible refine Below.trans ?_ (Below.mono hb7 ?_)) | (with_reducible refine Below.trans ?_ (Below.mono hb8 ?_)) | (with_reducible refine Below.trans ?_ (Below.mono hb9 ?_)) | (focus (first | omega | (simp; done) | (simp; omega))) | exact hB))⟩
    · exact (((Dg.of h0).call ((Below.refl _ _).alloc (Nat.le_refl _) _)).call ((Below.refl _ _).alloc (Nat.le_refl _) _)).call ((Below.refl _ _).alloc (Nat.le_refl _) _)
    · exact ((Dg.of h1).call ((Below.refl _ _).alloc (Nat.le_refl _) _)).call ((Below.refl _ _).alloc (Nat.le_refl _) _)
    · rw [Below.heap_alloc _ _ _ (by simp)]; exact newest_at _ _ (by simp)
    · exact newest_at _ _ (by simp)
  case round =>
    obtain ⟨k, hk, rfl, rfl, hA, hB2, hR, hO, hB⟩ := hrel
    by_cases hlt : k < 6
    · obtain ⟨s1, s2⟩ := plus_step k a b
      obtain ⟨c0, c1⟩ := cy_in k a b
      obtain ⟨d0, d1⟩ := dg_in k a
      obtain ⟨d2, d3⟩ := dg_in k b
      obtain ⟨⟨v0, q0⟩, q1, q2⟩ := fill_get hO (k := k) (by rw [upL_size]; omega)
      have r1 := hA.2 k hlt
      have r2 := hB2.2 k hlt
      have lA := hA.1
      have lB := hB2.1
      have lO := lt_of_block hO
      have ia : (0 : Int) ≤ (k : Int) := by omega
      have ib : (k : Int) < 6 := by omega
      have S1 := Lib.hid s1
      have S2 := Lib.hid s2
      have Q2 := Lib.hid q2
      generalize dg k a = x at *
      generalize dg k b = y at *
      generalize hZ : cyI k a b = z at *
      have HR := Lib.hid hR
      clear s1 s2 q2 hZ hR

      go_wp2
      go_quiet (fail)
      go_wp2
      have BB := bel_dn (w.heap.size + 1 + 1 + 1) wr nq ⟨w.heap.size + 1 + 1 + 1, k, none⟩ (.int .u64 ((x + y + z) % 4294967296)) (Nat.le_refl _)
      go_roundw
      case rel =>
        refine ⟨k + 1, by omega, by simp, by rw [S2.out], hA.low BB (by omega), hB2.low BB (by omega), (BB.block _ (by omega)).trans HR.out, ?_, hB.trans (BB.mono (by omega))⟩
        rw [S1.out]
        exact (Q2.out _).trans (by rw [upL_set k _ hlt])
      case measure => simp [intOf]; omega
    · obtain rfl : k = 6 := by omega
      rw [upL_six] at hO
      rw [upL_zero] at hR
      have o0 := cell_of_row wr (w.heap.size + 1 + 1 + 1) 0 _ _ _ hO
      have o1 := cell_of_row wr (w.heap.size + 1 + 1 + 1) 1 _ _ _ hO
      have o2 := cell_of_row wr (w.heap.size + 1 + 1 + 1) 2 _ _ _ hO
      have o3 := cell_of_row wr (w.heap.size + 1 + 1 + 1) 3 _ _ _ hO
      have o4 := cell_of_row wr (w.heap.size + 1 + 1 + 1) 4 _ _ _ hO
      have o5 := cell_of_row wr (w.heap.size + 1 + 1 + 1) 5 _ _ _ hO
      have r0 := cell_of_row wr (w.heap.size + 1 + 1) 0 _ _ _ hR
      have r1 := cell_of_row wr (w.heap.size + 1 + 1) 1 _ _ _ hR
      have r2 := cell_of_row wr (w.heap.size + 1 + 1) 2 _ _ _ hR
      have r3 := cell_of_row wr (w.heap.size + 1 + 1) 3 _ _ _ hR
      have r4 := cell_of_row wr (w.heap.size + 1 + 1) 4 _ _ _ hR
      have r5 := cell_of_row wr (w.heap.size + 1 + 1) 5 _ _ _ hR
      have rf : ∀ i, wr.frozen? ⟨w.heap.size + 1 + 1, i, none⟩ = false := fun i => by simp [World.frozen?, hR]
      simp only [List.getElem?_toArray, List.getElem?_cons_zero, List.getElem?_cons_succ] at o0 o1 o2 o3 o4 o5 r0 r1 r2 r3 r4 r5
      have lR := lt_of_block hR
      have lO := lt_of_block hO
      clear hA hB2 hR hO
      go_wp2
      exact bodyPost_ret (v := .agg #[.int .u64 (dg 0 (a + b)), .int .u64 (dg 1 (a + b)), .int .u64 (dg 2 (a + b)), .int .u64 (dg 3 (a + b)), .int .u64 (dg 4 (a + b)), .int .u64 (dg 5 (a + b))]) (by simp [*, results, Try.results102, go_sem]) rfl ⟨rfl, (by repeat (first | (with_reducible exact Below.refl _ _) | (with_reducible assumption) | (with_reducible refine Below.drew ?_) | (with_reducible refine Below.alloc ?_ ?_ _) | (with_reducible refine Below.setCell ?_ ?_ _) | (with_reducible refine Below.trans ?_ (Below.mono hb ?_)) | (with_reducible refine Below.trans ?_ (Below.mono hb1 ?_)) | (with_reducible refine Below.trans ?_ (Below.mono hb2 ?_)) | (with_reducible refine Below.trans ?_ (Below.mono hb3 ?_)) | (with_reducible refine Below.trans ?_ (Below.mono hb4 ?_)) | (with_reducible refine Below.trans ?_ (Below.mono hb5 ?_)) | (with_reducible refine Below.trans ?_ (Below.mono hb6 ?_)) | (with_reducible refine Below.trans ?_ (Below.mono hb7 ?_)) | (with_reducible refine Below.trans ?_ (Below.mono hb8 ?_)) | (with_reducible refine Below.trans ?_ (Below.mono hb9 ?_)) | (focus (first | omega | (simp; done) | (simp; omega))) | exact hB))⟩
set_option maxHeartbeats 1000000 in
theorem minus_any (a b : Int) (w : World) : Calls Try.prog 123 #[.agg #[.int .u64 (dg 0 (a)), .int .u64 (dg 1 (a)), .int .u64 (dg 2 (a)), .int .u64 (dg 3 (a)), .int .u64 (dg 4 (a)), .int .u64 (dg 5 (a))], .agg #[.int .u64 (dg 0 (b)), .int .u64 (dg 1 (b)), .int .u64 (dg 2 (b)), .int .u64 (dg 3 (b)), .int .u64 (dg 4 (b)), .int .u64 (dg 5 (b))]] w fun e w' => e = .returned (.agg #[.int .u64 (dg 0 (a - b)), .int .u64 (dg 1 (a - b)), .int .u64 (dg 2 (a - b)), .int .u64 (dg 3 (a - b)), .int .u64 (dg 4 (a - b)), .int .u64 (dg 5 (a - b))]) ∧ Below w.heap.size w w' := by
  go_enter Try.func123, Try.ntmps123
  go_wp2
  go_loopw [6, 7] (fun c i wr => ∃ k : Nat, k ≤ 6 ∧ i = .int .i64 k ∧ c = .int .u64 (bwI k a b) ∧ Dg wr w.heap.size a ∧ Dg wr (w.heap.size + 1) b ∧
      wr.heap[w.heap.size + 1 + 1]? = some (.cells (upL 0 a) 102 (0, 0)) ∧ wr.heap[w.heap.size + 1 + 1 + 1]? = some (.cells (upL k (a - b)) 102 (0, 0)) ∧ Below w.heap.size w wr) (fun _ i _ => 6 - (intOf i).toNat)
  case atStart =>
    have h0 : (w.alloc (.cells #[.int .u64 (dg 0 (a)), .int .u64 (dg 1 (a)), .int .u64 (dg 2 (a)), .int .u64 (dg 3 (a)), .int .u64 (dg 4 (a)), .int .u64 (dg 5 (a))] 102)).heap[w.heap.size]? = some (.cells #[.int .u64 (dg 0 (a)), .int .u64 (dg 1 (a)), .int .u64 (dg 2 (a)), .int .u64 (dg 3 (a)), .int .u64 (dg 4 (a)), .int .u64 (dg 5 (a))] 102 (0, 0)) := heap_alloc_new w _
    have h1 : ((w.alloc (.cells #[.int .u64 (dg 0 (a)), .int .u64 (dg 1 (a)), .int .u64 (dg 2 (a)), .int .u64 (dg 3 (a)), .int .u64 (dg 4 (a)), .int .u64 (dg 5 (a))] 102)).alloc (.cells #[.int .u64 (dg 0 (b)), .int .u64 (dg 1 (b)), .int .u64 (dg 2 (b)), .int .u64 (dg 3 (b)), .int .u64 (dg 4 (b)), .int .u64 (dg 5 (b))] 102)).heap[w.heap.size + 1]? = some (.cells #[.int .u64 (dg 0 (b)), .int .u64 (dg 1 (b)), .int .u64 (dg 2 (b)), .int .u64 (dg 3 (b)), .int .u64 (dg 4 (b)), .int .u64 (dg 5 (b))] 102 (0, 0)) := newest_at _ _ (by simp)
    refine ⟨0, by omega, rfl, by rw [bw_zero], ?_, ?_, ?_, ?_, (by repeat (first | (with_reducible exact Below.refl _ _) | (with_reducible assumption) | (with_reducible refine Below.drew ?_) | (with_reducible refine Below.alloc ?_ ?_ _) | (with_reducible refine Below.setCell ?_ ?_ _) | (with_reducible refine Below.trans ?_ (Below.mono hb ?_)) | (with_reducible refine Below.trans ?_ (Below.mono hb1 ?_)) | (with_reducible refine Below.trans ?_ (Below.mono hb2 ?_)) | (with_reducible refine Below.trans ?_ (Below.mono hb3 ?_)) | (with_reducible refine Below.trans ?_ (Below.mono hb4 ?_)) | (with_reducible refine Below.trans ?_ (Below.mono hb5 ?_)) | (with_reducible refine Below.trans ?_ (Below.mono hb6 ?_)) | (with_reducible refine Below.trans ?_ (Below.mono hb7 ?_)) | (with_reducible refine Below.trans ?_ (Below.mono hb8 ?_)) | (with_reducible refine Below.trans ?_ (Below.mono hb9 ?_)) | (focus (first | omega | (simp; done) | (simp; omega))) | exact hB))⟩
    · exact (((Dg.of h0).call ((Below.refl _ _).alloc (Nat.le_refl _) _)).call ((Below.refl _ _).alloc (Nat.le_refl _) _)).call ((Below.refl _ _).alloc (Nat.le_refl _) _)
    · exact ((Dg.of h1).call ((Below.refl _ _).alloc (Nat.le_refl _) _)).call ((Below.refl _ _).alloc (Nat.le_refl _) _)
    · rw [Below.heap_alloc _ _ _ (by simp)]; exact newest_at _ _ (by simp)
    · exact newest_at _ _ (by simp)
  case round =>
    obtain ⟨k, hk, rfl, rfl, hA, hB2, hR, hO, hB⟩ := hrel
    by_cases hlt : k < 6
    · obtain ⟨s1, s2⟩ := minus_step k a b
      obtain ⟨c0, c1⟩ := bw_in k a b
      obtain ⟨d0, d1⟩ := dg_in k a
      obtain ⟨d2, d3⟩ := dg_in k b
      obtain ⟨⟨v0, q0⟩, q1, q2⟩ := fill_get hO (k := k) (by rw [upL_size]; omega)
      have r1 := hA.2 k hlt
      have r2 := hB2.2 k hlt
      have lA := hA.1
      have lB := hB2.1
      have lO := lt_of_block hO
      have ia : (0 : Int) ≤ (k : Int) := by omega
      have ib : (k : Int) < 6 := by omega
      have S1 := Lib.hid s1
      have S2 := Lib.hid s2
      have Q2 := Lib.hid q2
      generalize dg k a = x at *
      generalize dg k b = y at *
      generalize hZ : bwI k a b = z at *
      have HR := Lib.hid hR
      clear s1 s2 q2 hZ hR
      have m0 : 0 ≤ (x + 4294967296 - y - z) / 4294967296 := by omega
      have m1 : (x + 4294967296 - y - z) / 4294967296 ≤ 1 := by omega
      go_wp2
      go_quiet (fail)
      go_wp2
      have BB := bel_dn (w.heap.size + 1 + 1 + 1) wr nq ⟨w.heap.size + 1 + 1 + 1, k, none⟩ (.int .u64 ((x + 4294967296 - y - z) % 4294967296)) (Nat.le_refl _)
      go_roundw
      case rel =>
        refine ⟨k + 1, by omega, by simp, by rw [← S2.out], hA.low BB (by omega), hB2.low BB (by omega), (BB.block _ (by omega)).trans HR.out, ?_, hB.trans (BB.mono (by omega))⟩
        rw [S1.out]
        exact (Q2.out _).trans (by rw [upL_set k _ hlt])
      case measure => simp [intOf]; omega
    · obtain rfl : k = 6 := by omega
      rw [upL_six] at hO
      rw [upL_zero] at hR
      have o0 := cell_of_row wr (w.heap.size + 1 + 1 + 1) 0 _ _ _ hO
      have o1 := cell_of_row wr (w.heap.size + 1 + 1 + 1) 1 _ _ _ hO
      have o2 := cell_of_row wr (w.heap.size + 1 + 1 + 1) 2 _ _ _ hO
      have o3 := cell_of_row wr (w.heap.size + 1 + 1 + 1) 3 _ _ _ hO
      have o4 := cell_of_row wr (w.heap.size + 1 + 1 + 1) 4 _ _ _ hO
      have o5 := cell_of_row wr (w.heap.size + 1 + 1 + 1) 5 _ _ _ hO
      have r0 := cell_of_row wr (w.heap.size + 1 + 1) 0 _ _ _ hR
      have r1 := cell_of_row wr (w.heap.size + 1 + 1) 1 _ _ _ hR
      have r2 := cell_of_row wr (w.heap.size + 1 + 1) 2 _ _ _ hR
      have r3 := cell_of_row wr (w.heap.size + 1 + 1) 3 _ _ _ hR
      have r4 := cell_of_row wr (w.heap.size + 1 + 1) 4 _ _ _ hR
      have r5 := cell_of_row wr (w.heap.size + 1 + 1) 5 _ _ _ hR
      have rf : ∀ i, wr.frozen? ⟨w.heap.size + 1 + 1, i, none⟩ = false := fun i => by simp [World.frozen?, hR]
      simp only [List.getElem?_toArray, List.getElem?_cons_zero, List.getElem?_cons_succ] at o0 o1 o2 o3 o4 o5 r0 r1 r2 r3 r4 r5
      have lR := lt_of_block hR
      have lO := lt_of_block hO
      clear hA hB2 hR hO
      go_wp2
      exact bodyPost_ret (v := .agg #[.int .u64 (dg 0 (a - b)), .int .u64 (dg 1 (a - b)), .int .u64 (dg 2 (a - b)), .int .u64 (dg 3 (a - b)), .int .u64 (dg 4 (a - b)), .int .u64 (dg 5 (a - b))]) (by simp [*, results, Try.results123, go_sem]) rfl ⟨rfl, (by repeat (first | (with_reducible exact Below.refl _ _) | (with_reducible assumption) | (with_reducible refine Below.drew ?_) | (with_reducible refine Below.alloc ?_ ?_ _) | (with_reducible refine Below.setCell ?_ ?_ _) | (with_reducible refine Below.trans ?_ (Below.mono hb ?_)) | (with_reducible refine Below.trans ?_ (Below.mono hb1 ?_)) | (with_reducible refine Below.trans ?_ (Below.mono hb2 ?_)) | (with_reducible refine Below.trans ?_ (Below.mono hb3 ?_)) | (with_reducible refine Below.trans ?_ (Below.mono hb4 ?_)) | (with_reducible refine Below.trans ?_ (Below.mono hb5 ?_)) | (with_reducible refine Below.trans ?_ (Below.mono hb6 ?_)) | (with_reducible refine Below.trans ?_ (Below.mono hb7 ?_)) | (with_reducible refine Below.trans ?_ (Below.mono hb8 ?_)) | (with_reducible refine Below.trans ?_ (Below.mono hb9 ?_)) | (focus (first | omega | (simp; done) | (simp; omega))) | exact hB))⟩
end Go.Proofs.Ytikjomekhnkgcaa
