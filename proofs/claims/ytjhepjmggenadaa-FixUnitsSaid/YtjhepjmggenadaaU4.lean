import Derived.Test.YtjhepjmggenadaaU3
/- An op of a unit: step and want of the law FixUnits. -/
namespace Go.Proofs.Ytjhepjmggenadaa
open Go.RowKit
attribute [local go_sem ↓] Go.wp_at_zero Go.wp_at_succ

/-- What an op answers, and whether it is held. -/
noncomputable def opV (k a b : Int) : Int :=
  if k = 1 then clampI (a + b) else if k = 2 then clampI (a - b) else if k = 3 ∨ k = 9 then clampI (rnd (a * b) 4294967296) else if k = 4 then divI (a * 4294967296) b a else if k = 5 then divI a (b / 4294967296) a else if k = 6 then rtI a else a
noncomputable def opO (k a b : Int) : Bool :=
  if k = 1 then overI (a + b) else if k = 2 then overI (a - b) else if k = 3 ∨ k = 9 then overI (rnd (a * b) 4294967296) else if k = 4 then divO (a * 4294967296) b else if k = 5 then divO a (b / 4294967296) else if k = 6 then decide (a < 0) else decide (0 < b)
theorem sh64 {b : Int} (hb : In64 b) : In64 (b / 4294967296) := by unfold In64 at *; omega
set_option maxHeartbeats 1000000 in
theorem step_1 (U : Value) (u : Option Nat) (c a b : Int) (ha : In64 a) (hb0 : In64 b) (w : World) (hU : Unt w U u c) (hc0 : 0 ≤ c) (hc : c < 1000000000) :
    Calls Try.prog 50 #[U, .agg #[.int .i64 1, .int .i64 a, .int .i64 b]] w (GotN w U u c (.int .i64 (clampI (a + b))) (ov (overI (a + b)))) := by
  go_enter Try.func50, Try.ntmps50
  go_wp2_with (go_at_call 80; refine (uadd_any U u c a b ha hb0 _ (Unt.call hU (by repeat (first | (with_reducible exact Below.refl _ _) | (with_reducible assumption) | (with_reducible refine Below.drew ?_) | (with_reducible refine Below.alloc ?_ ?_ _) | (with_reducible refine Below.setCell ?_ ?_ _) | (with_reducible refine Below.trans ?_ (Below.mono hb ?_)) | (with_reducible refine Below.trans ?_ (Below.mono hb1 ?_)) | (with_reducible refine Below.trans ?_ (Below.mono hb2 ?_)) | (with_reducible refine Below.trans ?_ (Below.mono hb3 ?_)) | (with_reducible refine Below.trans ?_ (Below.mono hb4 ?_)) | (with_reducible refine Below.trans ?_ (Below.mono hb5 ?_)) | (with_reducible refine Below.trans ?_ (Below.mono hb6 ?_)) | (with_reducible refine Below.trans ?_ (Below.mono hb7 ?_)) | (with_reducible refine Below.trans ?_ (Below.mono hb8 ?_)) | (with_reducible refine Below.trans ?_ (Below.mono hb9 ?_)) | (focus (first | omega | (simp; done) | (simp; omega))) | exact hB))) hc0 hc).mono ?_; rintro e w9 ⟨rfl, hg, hV⟩)
  go_ret
  exact ⟨rfl, gr_trans (gr_below (by repeat (first | (with_reducible exact Below.refl _ _) | (with_reducible assumption) | (with_reducible refine Below.drew ?_) | (with_reducible refine Below.alloc ?_ ?_ _) | (with_reducible refine Below.setCell ?_ ?_ _) | (with_reducible refine Below.trans ?_ (Below.mono hb ?_)) | (with_reducible refine Below.trans ?_ (Below.mono hb1 ?_)) | (with_reducible refine Below.trans ?_ (Below.mono hb2 ?_)) | (with_reducible refine Below.trans ?_ (Below.mono hb3 ?_)) | (with_reducible refine Below.trans ?_ (Below.mono hb4 ?_)) | (with_reducible refine Below.trans ?_ (Below.mono hb5 ?_)) | (with_reducible refine Below.trans ?_ (Below.mono hb6 ?_)) | (with_reducible refine Below.trans ?_ (Below.mono hb7 ?_)) | (with_reducible refine Below.trans ?_ (Below.mono hb8 ?_)) | (with_reducible refine Below.trans ?_ (Below.mono hb9 ?_)) | (focus (first | omega | (simp; done) | (simp; omega))) | exact hB)) u) hg, hV⟩
set_option maxHeartbeats 1000000 in
theorem want_1 (a b : Int) (ha : In64 a) (hb0 : In64 b) (w : World) :
    Calls Try.prog 49 #[.agg #[.int .i64 1, .int .i64 a, .int .i64 b]] w fun e w' => e = .returned (.tuple #[.int .i64 (clampI (a + b)), .bool (overI (a + b))]) ∧ Below w.heap.size w w' := by
  go_enter Try.func49, Try.ntmps49
  go_upto_region 1 with (fail)
  refine at_world fun W0 hW0 => ?_
  have bx : W0.heap[w.heap.size]? = some (.cells #[.int .i64 1, .int .i64 a, .int .i64 b] 68 (0, 0)) := by subst hW0; exact heap_alloc_new w _
  have BW : Below w.heap.size w W0 := by subst hW0; exact (by repeat (first | (with_reducible exact Below.refl _ _) | (with_reducible assumption) | (with_reducible refine Below.drew ?_) | (with_reducible refine Below.alloc ?_ ?_ _) | (with_reducible refine Below.setCell ?_ ?_ _) | (with_reducible refine Below.trans ?_ (Below.mono hb ?_)) | (with_reducible refine Below.trans ?_ (Below.mono hb1 ?_)) | (with_reducible refine Below.trans ?_ (Below.mono hb2 ?_)) | (with_reducible refine Below.trans ?_ (Below.mono hb3 ?_)) | (with_reducible refine Below.trans ?_ (Below.mono hb4 ?_)) | (with_reducible refine Below.trans ?_ (Below.mono hb5 ?_)) | (with_reducible refine Below.trans ?_ (Below.mono hb6 ?_)) | (with_reducible refine Below.trans ?_ (Below.mono hb7 ?_)) | (with_reducible refine Below.trans ?_ (Below.mono hb8 ?_)) | (with_reducible refine Below.trans ?_ (Below.mono hb9 ?_)) | (focus (first | omega | (simp; done) | (simp; omega))) | exact hB))
  clear hW0
  have lx := lt_of_block bx
  have p1 := cell_of_row W0 w.heap.size 1 _ _ _ bx
  have p2 := cell_of_row W0 w.heap.size 2 _ _ _ bx
  simp only [List.getElem?_toArray, List.getElem?_cons_zero, List.getElem?_cons_succ] at p1 p2
  have j1 := pack_cell p1 lx
  have j2 := pack_cell p2 lx
  clear p1 p2
  refine wp_region_pack (by kernel_rfl) (by kernel_rfl) ?_
  repeat (first | go_big_quiet_skip | (go_big_quiet_want; go_big_quiet_op; first | go_big_quiet_on | (apply Exists.intro; refine ⟨fun npk => ?_, ?_⟩; (focus (first | fail)); go_big_quiet_on)))
  refine wpQuiet_nil ?_
  intro nq
  have bx1 := (nq.ok.block _ lx).trans bx
  have BQ := BW.trans (nq.ok.mono BW.size)
  clear j1 j2 bx BW lx
  generalize nq.w = W1 at *
  have lx := lt_of_block bx1
  have p0 := cell_of_row W1 w.heap.size 0 _ _ _ bx1
  simp only [List.getElem?_toArray, List.getElem?_cons_zero] at p0
  go_wp2_with (go_at_call 36; refine (radd_any a b ha hb0 _).mono ?_; rintro e w9 ⟨rfl, hb9⟩)
  go_ret2
  exact ⟨rfl, BQ.trans (hb9.mono BQ.size)⟩
set_option maxHeartbeats 1000000 in
theorem step_2 (U : Value) (u : Option Nat) (c a b : Int) (ha : In64 a) (hb0 : In64 b) (w : World) (hU : Unt w U u c) (hc0 : 0 ≤ c) (hc : c < 1000000000) :
    Calls Try.prog 50 #[U, .agg #[.int .i64 2, .int .i64 a, .int .i64 b]] w (GotN w U u c (.int .i64 (clampI (a - b))) (ov (overI (a - b)))) := by
  go_enter Try.func50, Try.ntmps50
  go_wp2_with (go_at_call 81; refine (usub_any U u c a b ha hb0 _ (Unt.call hU (by repeat (first | (with_reducible exact Below.refl _ _) | (with_reducible assumption) | (with_reducible refine Below.drew ?_) | (with_reducible refine Below.alloc ?_ ?_ _) | (with_reducible refine Below.setCell ?_ ?_ _) | (with_reducible refine Below.trans ?_ (Below.mono hb ?_)) | (with_reducible refine Below.trans ?_ (Below.mono hb1 ?_)) | (with_reducible refine Below.trans ?_ (Below.mono hb2 ?_)) | (with_reducible refine Below.trans ?_ (Below.mono hb3 ?_)) | (with_reducible refine Below.trans ?_ (Below.mono hb4 ?_)) | (with_reducible refine Below.trans ?_ (Below.mono hb5 ?_)) | (with_reducible refine Below.trans ?_ (Below.mono hb6 ?_)) | (with_reducible refine Below.trans ?_ (Below.mono hb7 ?_)) | (with_reducible refine Below.trans ?_ (Below.mono hb8 ?_)) | (with_reducible refine Below.trans ?_ (Below.mono hb9 ?_)) | (focus (first | omega | (simp; done) | (simp; omega))) | exact hB))) hc0 hc).mono ?_; rintro e w9 ⟨rfl, hg, hV⟩)
  go_ret
  exact ⟨rfl, gr_trans (gr_below (by repeat (first | (with_reducible exact Below.refl _ _) | (with_reducible assumption) | (with_reducible refine Below.drew ?_) | (with_reducible refine Below.alloc ?_ ?_ _) | (with_reducible refine Below.setCell ?_ ?_ _) | (with_reducible refine Below.trans ?_ (Below.mono hb ?_)) | (with_reducible refine Below.trans ?_ (Below.mono hb1 ?_)) | (with_reducible refine Below.trans ?_ (Below.mono hb2 ?_)) | (with_reducible refine Below.trans ?_ (Below.mono hb3 ?_)) | (with_reducible refine Below.trans ?_ (Below.mono hb4 ?_)) | (with_reducible refine Below.trans ?_ (Below.mono hb5 ?_)) | (with_reducible refine Below.trans ?_ (Below.mono hb6 ?_)) | (with_reducible refine Below.trans ?_ (Below.mono hb7 ?_)) | (with_reducible refine Below.trans ?_ (Below.mono hb8 ?_)) | (with_reducible refine Below.trans ?_ (Below.mono hb9 ?_)) | (focus (first | omega | (simp; done) | (simp; omega))) | exact hB)) u) hg, hV⟩
set_option maxHeartbeats 1000000 in
theorem want_2 (a b : Int) (ha : In64 a) (hb0 : In64 b) (w : World) :
    Calls Try.prog 49 #[.agg #[.int .i64 2, .int .i64 a, .int .i64 b]] w fun e w' => e = .returned (.tuple #[.int .i64 (clampI (a - b)), .bool (overI (a - b))]) ∧ Below w.heap.size w w' := by
  go_enter Try.func49, Try.ntmps49
  go_upto_region 1 with (fail)
  refine at_world fun W0 hW0 => ?_
  have bx : W0.heap[w.heap.size]? = some (.cells #[.int .i64 2, .int .i64 a, .int .i64 b] 68 (0, 0)) := by subst hW0; exact heap_alloc_new w _
  have BW : Below w.heap.size w W0 := by subst hW0; exact (by repeat (first | (with_reducible exact Below.refl _ _) | (with_reducible assumption) | (with_reducible refine Below.drew ?_) | (with_reducible refine Below.alloc ?_ ?_ _) | (with_reducible refine Below.setCell ?_ ?_ _) | (with_reducible refine Below.trans ?_ (Below.mono hb ?_)) | (with_reducible refine Below.trans ?_ (Below.mono hb1 ?_)) | (with_reducible refine Below.trans ?_ (Below.mono hb2 ?_)) | (with_reducible refine Below.trans ?_ (Below.mono hb3 ?_)) | (with_reducible refine Below.trans ?_ (Below.mono hb4 ?_)) | (with_reducible refine Below.trans ?_ (Below.mono hb5 ?_)) | (with_reducible refine Below.trans ?_ (Below.mono hb6 ?_)) | (with_reducible refine Below.trans ?_ (Below.mono hb7 ?_)) | (with_reducible refine Below.trans ?_ (Below.mono hb8 ?_)) | (with_reducible refine Below.trans ?_ (Below.mono hb9 ?_)) | (focus (first | omega | (simp; done) | (simp; omega))) | exact hB))
  clear hW0
  have lx := lt_of_block bx
  have p1 := cell_of_row W0 w.heap.size 1 _ _ _ bx
  have p2 := cell_of_row W0 w.heap.size 2 _ _ _ bx
  simp only [List.getElem?_toArray, List.getElem?_cons_zero, List.getElem?_cons_succ] at p1 p2
  have j1 := pack_cell p1 lx
  have j2 := pack_cell p2 lx
  clear p1 p2
  refine wp_region_pack (by kernel_rfl) (by kernel_rfl) ?_
  repeat (first | go_big_quiet_skip | (go_big_quiet_want; go_big_quiet_op; first | go_big_quiet_on | (apply Exists.intro; refine ⟨fun npk => ?_, ?_⟩; (focus (first | fail)); go_big_quiet_on)))
  refine wpQuiet_nil ?_
  intro nq
  have bx1 := (nq.ok.block _ lx).trans bx
  have BQ := BW.trans (nq.ok.mono BW.size)
  clear j1 j2 bx BW lx
  generalize nq.w = W1 at *
  have lx := lt_of_block bx1
  have p0 := cell_of_row W1 w.heap.size 0 _ _ _ bx1
  simp only [List.getElem?_toArray, List.getElem?_cons_zero] at p0
  go_wp2_with (go_at_call 37; refine (rsub_any a b ha hb0 _).mono ?_; rintro e w9 ⟨rfl, hb9⟩)
  go_ret2
  exact ⟨rfl, BQ.trans (hb9.mono BQ.size)⟩
set_option maxHeartbeats 1000000 in
theorem step_3 (U : Value) (u : Option Nat) (c a b : Int) (ha : In64 a) (hb0 : In64 b) (w : World) (hU : Unt w U u c) (hc0 : 0 ≤ c) (hc : c < 1000000000) :
    Calls Try.prog 50 #[U, .agg #[.int .i64 3, .int .i64 a, .int .i64 b]] w (GotN w U u c (.int .i64 (clampI (rnd (a * b) 4294967296))) (ov (overI (rnd (a * b) 4294967296)))) := by
  go_enter Try.func50, Try.ntmps50
  go_wp2_with (go_at_call 82; refine (umul_any U u c a b ha hb0 _ (Unt.call hU (by repeat (first | (with_reducible exact Below.refl _ _) | (with_reducible assumption) | (with_reducible refine Below.drew ?_) | (with_reducible refine Below.alloc ?_ ?_ _) | (with_reducible refine Below.setCell ?_ ?_ _) | (with_reducible refine Below.trans ?_ (Below.mono hb ?_)) | (with_reducible refine Below.trans ?_ (Below.mono hb1 ?_)) | (with_reducible refine Below.trans ?_ (Below.mono hb2 ?_)) | (with_reducible refine Below.trans ?_ (Below.mono hb3 ?_)) | (with_reducible refine Below.trans ?_ (Below.mono hb4 ?_)) | (with_reducible refine Below.trans ?_ (Below.mono hb5 ?_)) | (with_reducible refine Below.trans ?_ (Below.mono hb6 ?_)) | (with_reducible refine Below.trans ?_ (Below.mono hb7 ?_)) | (with_reducible refine Below.trans ?_ (Below.mono hb8 ?_)) | (with_reducible refine Below.trans ?_ (Below.mono hb9 ?_)) | (focus (first | omega | (simp; done) | (simp; omega))) | exact hB))) hc0 hc).mono ?_; rintro e w9 ⟨rfl, hg, hV⟩)
  go_ret
  exact ⟨rfl, gr_trans (gr_below (by repeat (first | (with_reducible exact Below.refl _ _) | (with_reducible assumption) | (with_reducible refine Below.drew ?_) | (with_reducible refine Below.alloc ?_ ?_ _) | (with_reducible refine Below.setCell ?_ ?_ _) | (with_reducible refine Below.trans ?_ (Below.mono hb ?_)) | (with_reducible refine Below.trans ?_ (Below.mono hb1 ?_)) | (with_reducible refine Below.trans ?_ (Below.mono hb2 ?_)) | (with_reducible refine Below.trans ?_ (Below.mono hb3 ?_)) | (with_reducible refine Below.trans ?_ (Below.mono hb4 ?_)) | (with_reducible refine Below.trans ?_ (Below.mono hb5 ?_)) | (with_reducible refine Below.trans ?_ (Below.mono hb6 ?_)) | (with_reducible refine Below.trans ?_ (Below.mono hb7 ?_)) | (with_reducible refine Below.trans ?_ (Below.mono hb8 ?_)) | (with_reducible refine Below.trans ?_ (Below.mono hb9 ?_)) | (focus (first | omega | (simp; done) | (simp; omega))) | exact hB)) u) hg, hV⟩
set_option maxHeartbeats 1000000 in
theorem want_3 (a b : Int) (ha : In64 a) (hb0 : In64 b) (w : World) :
    Calls Try.prog 49 #[.agg #[.int .i64 3, .int .i64 a, .int .i64 b]] w fun e w' => e = .returned (.tuple #[.int .i64 (clampI (rnd (a * b) 4294967296)), .bool (overI (rnd (a * b) 4294967296))]) ∧ Below w.heap.size w w' := by
  go_enter Try.func49, Try.ntmps49
  go_upto_region 1 with (fail)
  refine at_world fun W0 hW0 => ?_
  have bx : W0.heap[w.heap.size]? = some (.cells #[.int .i64 3, .int .i64 a, .int .i64 b] 68 (0, 0)) := by subst hW0; exact heap_alloc_new w _
  have BW : Below w.heap.size w W0 := by subst hW0; exact (by repeat (first | (with_reducible exact Below.refl _ _) | (with_reducible assumption) | (with_reducible refine Below.drew ?_) | (with_reducible refine Below.alloc ?_ ?_ _) | (with_reducible refine Below.setCell ?_ ?_ _) | (with_reducible refine Below.trans ?_ (Below.mono hb ?_)) | (with_reducible refine Below.trans ?_ (Below.mono hb1 ?_)) | (with_reducible refine Below.trans ?_ (Below.mono hb2 ?_)) | (with_reducible refine Below.trans ?_ (Below.mono hb3 ?_)) | (with_reducible refine Below.trans ?_ (Below.mono hb4 ?_)) | (with_reducible refine Below.trans ?_ (Below.mono hb5 ?_)) | (with_reducible refine Below.trans ?_ (Below.mono hb6 ?_)) | (with_reducible refine Below.trans ?_ (Below.mono hb7 ?_)) | (with_reducible refine Below.trans ?_ (Below.mono hb8 ?_)) | (with_reducible refine Below.trans ?_ (Below.mono hb9 ?_)) | (focus (first | omega | (simp; done) | (simp; omega))) | exact hB))
  clear hW0
  have lx := lt_of_block bx
  have p1 := cell_of_row W0 w.heap.size 1 _ _ _ bx
  have p2 := cell_of_row W0 w.heap.size 2 _ _ _ bx
  simp only [List.getElem?_toArray, List.getElem?_cons_zero, List.getElem?_cons_succ] at p1 p2
  have j1 := pack_cell p1 lx
  have j2 := pack_cell p2 lx
  clear p1 p2
  refine wp_region_pack (by kernel_rfl) (by kernel_rfl) ?_
  repeat (first | go_big_quiet_skip | (go_big_quiet_want; go_big_quiet_op; first | go_big_quiet_on | (apply Exists.intro; refine ⟨fun npk => ?_, ?_⟩; (focus (first | fail)); go_big_quiet_on)))
  refine wpQuiet_nil ?_
  intro nq
  have bx1 := (nq.ok.block _ lx).trans bx
  have BQ := BW.trans (nq.ok.mono BW.size)
  clear j1 j2 bx BW lx
  generalize nq.w = W1 at *
  have lx := lt_of_block bx1
  have p0 := cell_of_row W1 w.heap.size 0 _ _ _ bx1
  simp only [List.getElem?_toArray, List.getElem?_cons_zero] at p0
  go_wp2_with (go_at_call 27; refine (rmul_any a b ha hb0 _).mono ?_; rintro e w9 ⟨rfl, hb9⟩)
  go_ret2
  exact ⟨rfl, BQ.trans (hb9.mono BQ.size)⟩
set_option maxHeartbeats 1000000 in
theorem step_4 (U : Value) (u : Option Nat) (c a b : Int) (ha : In64 a) (hb0 : In64 b) (w : World) (hU : Unt w U u c) (hc0 : 0 ≤ c) (hc : c < 1000000000) :
    Calls Try.prog 50 #[U, .agg #[.int .i64 4, .int .i64 a, .int .i64 b]] w (GotN w U u c (.int .i64 (divI (a * 4294967296) b a)) (ov (divO (a * 4294967296) b))) := by
  go_enter Try.func50, Try.ntmps50
  go_wp2_with (go_at_call 83; refine (udiv_any U u c a b ha hb0 _ (Unt.call hU (by repeat (first | (with_reducible exact Below.refl _ _) | (with_reducible assumption) | (with_reducible refine Below.drew ?_) | (with_reducible refine Below.alloc ?_ ?_ _) | (with_reducible refine Below.setCell ?_ ?_ _) | (with_reducible refine Below.trans ?_ (Below.mono hb ?_)) | (with_reducible refine Below.trans ?_ (Below.mono hb1 ?_)) | (with_reducible refine Below.trans ?_ (Below.mono hb2 ?_)) | (with_reducible refine Below.trans ?_ (Below.mono hb3 ?_)) | (with_reducible refine Below.trans ?_ (Below.mono hb4 ?_)) | (with_reducible refine Below.trans ?_ (Below.mono hb5 ?_)) | (with_reducible refine Below.trans ?_ (Below.mono hb6 ?_)) | (with_reducible refine Below.trans ?_ (Below.mono hb7 ?_)) | (with_reducible refine Below.trans ?_ (Below.mono hb8 ?_)) | (with_reducible refine Below.trans ?_ (Below.mono hb9 ?_)) | (focus (first | omega | (simp; done) | (simp; omega))) | exact hB))) hc0 hc).mono ?_; rintro e w9 ⟨rfl, hg, hV⟩)
  go_ret
  exact ⟨rfl, gr_trans (gr_below (by repeat (first | (with_reducible exact Below.refl _ _) | (with_reducible assumption) | (with_reducible refine Below.drew ?_) | (with_reducible refine Below.alloc ?_ ?_ _) | (with_reducible refine Below.setCell ?_ ?_ _) | (with_reducible refine Below.trans ?_ (Below.mono hb ?_)) | (with_reducible refine Below.trans ?_ (Below.mono hb1 ?_)) | (with_reducible refine Below.trans ?_ (Below.mono hb2 ?_)) | (with_reducible refine Below.trans ?_ (Below.mono hb3 ?_)) | (with_reducible refine Below.trans ?_ (Below.mono hb4 ?_)) | (with_reducible refine Below.trans ?_ (Below.mono hb5 ?_)) | (with_reducible refine Below.trans ?_ (Below.mono hb6 ?_)) | (with_reducible refine Below.trans ?_ (Below.mono hb7 ?_)) | (with_reducible refine Below.trans ?_ (Below.mono hb8 ?_)) | (with_reducible refine Below.trans ?_ (Below.mono hb9 ?_)) | (focus (first | omega | (simp; done) | (simp; omega))) | exact hB)) u) hg, hV⟩
set_option maxHeartbeats 1000000 in
theorem want_4 (a b : Int) (ha : In64 a) (hb0 : In64 b) (w : World) :
    Calls Try.prog 49 #[.agg #[.int .i64 4, .int .i64 a, .int .i64 b]] w fun e w' => e = .returned (.tuple #[.int .i64 (divI (a * 4294967296) b a), .bool (divO (a * 4294967296) b)]) ∧ Below w.heap.size w w' := by
  go_enter Try.func49, Try.ntmps49
  go_upto_region 1 with (fail)
  refine at_world fun W0 hW0 => ?_
  have bx : W0.heap[w.heap.size]? = some (.cells #[.int .i64 4, .int .i64 a, .int .i64 b] 68 (0, 0)) := by subst hW0; exact heap_alloc_new w _
  have BW : Below w.heap.size w W0 := by subst hW0; exact (by repeat (first | (with_reducible exact Below.refl _ _) | (with_reducible assumption) | (with_reducible refine Below.drew ?_) | (with_reducible refine Below.alloc ?_ ?_ _) | (with_reducible refine Below.setCell ?_ ?_ _) | (with_reducible refine Below.trans ?_ (Below.mono hb ?_)) | (with_reducible refine Below.trans ?_ (Below.mono hb1 ?_)) | (with_reducible refine Below.trans ?_ (Below.mono hb2 ?_)) | (with_reducible refine Below.trans ?_ (Below.mono hb3 ?_)) | (with_reducible refine Below.trans ?_ (Below.mono hb4 ?_)) | (with_reducible refine Below.trans ?_ (Below.mono hb5 ?_)) | (with_reducible refine Below.trans ?_ (Below.mono hb6 ?_)) | (with_reducible refine Below.trans ?_ (Below.mono hb7 ?_)) | (with_reducible refine Below.trans ?_ (Below.mono hb8 ?_)) | (with_reducible refine Below.trans ?_ (Below.mono hb9 ?_)) | (focus (first | omega | (simp; done) | (simp; omega))) | exact hB))
  clear hW0
  have lx := lt_of_block bx
  have p1 := cell_of_row W0 w.heap.size 1 _ _ _ bx
  have p2 := cell_of_row W0 w.heap.size 2 _ _ _ bx
  simp only [List.getElem?_toArray, List.getElem?_cons_zero, List.getElem?_cons_succ] at p1 p2
  have j1 := pack_cell p1 lx
  have j2 := pack_cell p2 lx
  clear p1 p2
  refine wp_region_pack (by kernel_rfl) (by kernel_rfl) ?_
  repeat (first | go_big_quiet_skip | (go_big_quiet_want; go_big_quiet_op; first | go_big_quiet_on | (apply Exists.intro; refine ⟨fun npk => ?_, ?_⟩; (focus (first | fail)); go_big_quiet_on)))
  refine wpQuiet_nil ?_
  intro nq
  have bx1 := (nq.ok.block _ lx).trans bx
  have BQ := BW.trans (nq.ok.mono BW.size)
  clear j1 j2 bx BW lx
  generalize nq.w = W1 at *
  have lx := lt_of_block bx1
  have p0 := cell_of_row W1 w.heap.size 0 _ _ _ bx1
  simp only [List.getElem?_toArray, List.getElem?_cons_zero] at p0
  go_wp2_with (go_at_call 47; refine (rdiv_any a b ha hb0 _).mono ?_; rintro e w9 ⟨rfl, hb9⟩)
  go_ret2
  exact ⟨rfl, BQ.trans (hb9.mono BQ.size)⟩
set_option maxHeartbeats 1000000 in
theorem step_5 (U : Value) (u : Option Nat) (c a b : Int) (ha : In64 a) (hb0 : In64 b) (w : World) (hU : Unt w U u c) (hc0 : 0 ≤ c) (hc : c < 1000000000) :
    Calls Try.prog 50 #[U, .agg #[.int .i64 5, .int .i64 a, .int .i64 b]] w (GotN w U u c (.int .i64 (divI a (b / 4294967296) a)) (ov (divO a (b / 4294967296)))) := by
  have es : b >>> (32 : Nat) = b / 4294967296 := by rw [Int.shiftRight_eq_div_pow]; rfl
  go_enter Try.func50, Try.ntmps50
  go_wp2_with (go_at_call 84; refine (uby_any U u c a (b / 4294967296) ha (sh64 hb0) _ (Unt.call hU (by repeat (first | (with_reducible exact Below.refl _ _) | (with_reducible assumption) | (with_reducible refine Below.drew ?_) | (with_reducible refine Below.alloc ?_ ?_ _) | (with_reducible refine Below.setCell ?_ ?_ _) | (with_reducible refine Below.trans ?_ (Below.mono hb ?_)) | (with_reducible refine Below.trans ?_ (Below.mono hb1 ?_)) | (with_reducible refine Below.trans ?_ (Below.mono hb2 ?_)) | (with_reducible refine Below.trans ?_ (Below.mono hb3 ?_)) | (with_reducible refine Below.trans ?_ (Below.mono hb4 ?_)) | (with_reducible refine Below.trans ?_ (Below.mono hb5 ?_)) | (with_reducible refine Below.trans ?_ (Below.mono hb6 ?_)) | (with_reducible refine Below.trans ?_ (Below.mono hb7 ?_)) | (with_reducible refine Below.trans ?_ (Below.mono hb8 ?_)) | (with_reducible refine Below.trans ?_ (Below.mono hb9 ?_)) | (focus (first | omega | (simp; done) | (simp; omega))) | exact hB))) hc0 hc).mono ?_; rintro e w9 ⟨rfl, hg, hV⟩)
  go_ret
  exact ⟨rfl, gr_trans (gr_below (by repeat (first | (with_reducible exact Below.refl _ _) | (with_reducible assumption) | (with_reducible refine Below.drew ?_) | (with_reducible refine Below.alloc ?_ ?_ _) | (with_reducible refine Below.setCell ?_ ?_ _) | (with_reducible refine Below.trans ?_ (Below.mono hb ?_)) | (with_reducible refine Below.trans ?_ (Below.mono hb1 ?_)) | (with_reducible refine Below.trans ?_ (Below.mono hb2 ?_)) | (with_reducible refine Below.trans ?_ (Below.mono hb3 ?_)) | (with_reducible refine Below.trans ?_ (Below.mono hb4 ?_)) | (with_reducible refine Below.trans ?_ (Below.mono hb5 ?_)) | (with_reducible refine Below.trans ?_ (Below.mono hb6 ?_)) | (with_reducible refine Below.trans ?_ (Below.mono hb7 ?_)) | (with_reducible refine Below.trans ?_ (Below.mono hb8 ?_)) | (with_reducible refine Below.trans ?_ (Below.mono hb9 ?_)) | (focus (first | omega | (simp; done) | (simp; omega))) | exact hB)) u) hg, hV⟩
set_option maxHeartbeats 1000000 in
theorem want_5 (a b : Int) (ha : In64 a) (hb0 : In64 b) (w : World) :
    Calls Try.prog 49 #[.agg #[.int .i64 5, .int .i64 a, .int .i64 b]] w fun e w' => e = .returned (.tuple #[.int .i64 (divI a (b / 4294967296) a), .bool (divO a (b / 4294967296))]) ∧ Below w.heap.size w w' := by
  have es : b >>> (32 : Nat) = b / 4294967296 := by rw [Int.shiftRight_eq_div_pow]; rfl
  go_enter Try.func49, Try.ntmps49
  go_upto_region 1 with (fail)
  refine at_world fun W0 hW0 => ?_
  have bx : W0.heap[w.heap.size]? = some (.cells #[.int .i64 5, .int .i64 a, .int .i64 b] 68 (0, 0)) := by subst hW0; exact heap_alloc_new w _
  have BW : Below w.heap.size w W0 := by subst hW0; exact (by repeat (first | (with_reducible exact Below.refl _ _) | (with_reducible assumption) | (with_reducible refine Below.drew ?_) | (with_reducible refine Below.alloc ?_ ?_ _) | (with_reducible refine Below.setCell ?_ ?_ _) | (with_reducible refine Below.trans ?_ (Below.mono hb ?_)) | (with_reducible refine Below.trans ?_ (Below.mono hb1 ?_)) | (with_reducible refine Below.trans ?_ (Below.mono hb2 ?_)) | (with_reducible refine Below.trans ?_ (Below.mono hb3 ?_)) | (with_reducible refine Below.trans ?_ (Below.mono hb4 ?_)) | (with_reducible refine Below.trans ?_ (Below.mono hb5 ?_)) | (with_reducible refine Below.trans ?_ (Below.mono hb6 ?_)) | (with_reducible refine Below.trans ?_ (Below.mono hb7 ?_)) | (with_reducible refine Below.trans ?_ (Below.mono hb8 ?_)) | (with_reducible refine Below.trans ?_ (Below.mono hb9 ?_)) | (focus (first | omega | (simp; done) | (simp; omega))) | exact hB))
  clear hW0
  have lx := lt_of_block bx
  have p1 := cell_of_row W0 w.heap.size 1 _ _ _ bx
  have p2 := cell_of_row W0 w.heap.size 2 _ _ _ bx
  simp only [List.getElem?_toArray, List.getElem?_cons_zero, List.getElem?_cons_succ] at p1 p2
  have j1 := pack_cell p1 lx
  have j2 := pack_cell p2 lx
  clear p1 p2
  refine wp_region_pack (by kernel_rfl) (by kernel_rfl) ?_
  repeat (first | go_big_quiet_skip | (go_big_quiet_want; go_big_quiet_op; first | go_big_quiet_on | (apply Exists.intro; refine ⟨fun npk => ?_, ?_⟩; (focus (first | fail)); go_big_quiet_on)))
  refine wpQuiet_nil ?_
  intro nq
  have bx1 := (nq.ok.block _ lx).trans bx
  have BQ := BW.trans (nq.ok.mono BW.size)
  clear j1 j2 bx BW lx
  generalize nq.w = W1 at *
  have lx := lt_of_block bx1
  have p0 := cell_of_row W1 w.heap.size 0 _ _ _ bx1
  simp only [List.getElem?_toArray, List.getElem?_cons_zero] at p0
  go_wp2_with (go_at_call 43; refine (rratio0_any a (b / 4294967296) ha (sh64 hb0) _).mono ?_; rintro e w9 ⟨rfl, hb9⟩)
  go_ret2
  exact ⟨rfl, BQ.trans (hb9.mono BQ.size)⟩
set_option maxHeartbeats 1000000 in
theorem step_6 (U : Value) (u : Option Nat) (c a b : Int) (ha : In64 a) (_hb0 : In64 b) (w : World) (hU : Unt w U u c) (hc0 : 0 ≤ c) (hc : c < 1000000000) :
    Calls Try.prog 50 #[U, .agg #[.int .i64 6, .int .i64 a, .int .i64 b]] w (GotN w U u c (.int .i64 (rtI a)) (ov (decide (a < 0)))) := by
  go_enter Try.func50, Try.ntmps50
  go_wp2_with (go_at_call 85; refine (usqrt_any U u c a ha _ (Unt.call hU (by repeat (first | (with_reducible exact Below.refl _ _) | (with_reducible assumption) | (with_reducible refine Below.drew ?_) | (with_reducible refine Below.alloc ?_ ?_ _) | (with_reducible refine Below.setCell ?_ ?_ _) | (with_reducible refine Below.trans ?_ (Below.mono hb ?_)) | (with_reducible refine Below.trans ?_ (Below.mono hb1 ?_)) | (with_reducible refine Below.trans ?_ (Below.mono hb2 ?_)) | (with_reducible refine Below.trans ?_ (Below.mono hb3 ?_)) | (with_reducible refine Below.trans ?_ (Below.mono hb4 ?_)) | (with_reducible refine Below.trans ?_ (Below.mono hb5 ?_)) | (with_reducible refine Below.trans ?_ (Below.mono hb6 ?_)) | (with_reducible refine Below.trans ?_ (Below.mono hb7 ?_)) | (with_reducible refine Below.trans ?_ (Below.mono hb8 ?_)) | (with_reducible refine Below.trans ?_ (Below.mono hb9 ?_)) | (focus (first | omega | (simp; done) | (simp; omega))) | exact hB))) hc0 hc).mono ?_; rintro e w9 ⟨rfl, hg, hV⟩)
  go_ret
  exact ⟨rfl, gr_trans (gr_below (by repeat (first | (with_reducible exact Below.refl _ _) | (with_reducible assumption) | (with_reducible refine Below.drew ?_) | (with_reducible refine Below.alloc ?_ ?_ _) | (with_reducible refine Below.setCell ?_ ?_ _) | (with_reducible refine Below.trans ?_ (Below.mono hb ?_)) | (with_reducible refine Below.trans ?_ (Below.mono hb1 ?_)) | (with_reducible refine Below.trans ?_ (Below.mono hb2 ?_)) | (with_reducible refine Below.trans ?_ (Below.mono hb3 ?_)) | (with_reducible refine Below.trans ?_ (Below.mono hb4 ?_)) | (with_reducible refine Below.trans ?_ (Below.mono hb5 ?_)) | (with_reducible refine Below.trans ?_ (Below.mono hb6 ?_)) | (with_reducible refine Below.trans ?_ (Below.mono hb7 ?_)) | (with_reducible refine Below.trans ?_ (Below.mono hb8 ?_)) | (with_reducible refine Below.trans ?_ (Below.mono hb9 ?_)) | (focus (first | omega | (simp; done) | (simp; omega))) | exact hB)) u) hg, hV⟩
set_option maxHeartbeats 1000000 in
theorem want_6 (a b : Int) (ha : In64 a) (_hb0 : In64 b) (w : World) :
    Calls Try.prog 49 #[.agg #[.int .i64 6, .int .i64 a, .int .i64 b]] w fun e w' => e = .returned (.tuple #[.int .i64 (rtI a), .bool (decide (a < 0))]) ∧ Below w.heap.size w w' := by
  go_enter Try.func49, Try.ntmps49
  go_upto_region 1 with (fail)
  refine at_world fun W0 hW0 => ?_
  have bx : W0.heap[w.heap.size]? = some (.cells #[.int .i64 6, .int .i64 a, .int .i64 b] 68 (0, 0)) := by subst hW0; exact heap_alloc_new w _
  have BW : Below w.heap.size w W0 := by subst hW0; exact (by repeat (first | (with_reducible exact Below.refl _ _) | (with_reducible assumption) | (with_reducible refine Below.drew ?_) | (with_reducible refine Below.alloc ?_ ?_ _) | (with_reducible refine Below.setCell ?_ ?_ _) | (with_reducible refine Below.trans ?_ (Below.mono hb ?_)) | (with_reducible refine Below.trans ?_ (Below.mono hb1 ?_)) | (with_reducible refine Below.trans ?_ (Below.mono hb2 ?_)) | (with_reducible refine Below.trans ?_ (Below.mono hb3 ?_)) | (with_reducible refine Below.trans ?_ (Below.mono hb4 ?_)) | (with_reducible refine Below.trans ?_ (Below.mono hb5 ?_)) | (with_reducible refine Below.trans ?_ (Below.mono hb6 ?_)) | (with_reducible refine Below.trans ?_ (Below.mono hb7 ?_)) | (with_reducible refine Below.trans ?_ (Below.mono hb8 ?_)) | (with_reducible refine Below.trans ?_ (Below.mono hb9 ?_)) | (focus (first | omega | (simp; done) | (simp; omega))) | exact hB))
  clear hW0
  have lx := lt_of_block bx
  have p1 := cell_of_row W0 w.heap.size 1 _ _ _ bx
  have p2 := cell_of_row W0 w.heap.size 2 _ _ _ bx
  simp only [List.getElem?_toArray, List.getElem?_cons_zero, List.getElem?_cons_succ] at p1 p2
  have j1 := pack_cell p1 lx
  have j2 := pack_cell p2 lx
  clear p1 p2
  refine wp_region_pack (by kernel_rfl) (by kernel_rfl) ?_
  repeat (first | go_big_quiet_skip | (go_big_quiet_want; go_big_quiet_op; first | go_big_quiet_on | (apply Exists.intro; refine ⟨fun npk => ?_, ?_⟩; (focus (first | fail)); go_big_quiet_on)))
  refine wpQuiet_nil ?_
  intro nq
  have bx1 := (nq.ok.block _ lx).trans bx
  have BQ := BW.trans (nq.ok.mono BW.size)
  clear j1 j2 bx BW lx
  generalize nq.w = W1 at *
  have lx := lt_of_block bx1
  have p0 := cell_of_row W1 w.heap.size 0 _ _ _ bx1
  simp only [List.getElem?_toArray, List.getElem?_cons_zero] at p0
  go_wp2_with (go_at_call 19; refine (rsqrt_any a ha _).mono ?_; rintro e w9 ⟨rfl, hb9⟩)
  go_ret2
  exact ⟨rfl, BQ.trans (hb9.mono BQ.size)⟩
set_option maxHeartbeats 1000000 in
theorem step_7 (U : Value) (u : Option Nat) (c a b : Int) (_ha : In64 a) (_hb0 : In64 b) (w : World) (hU : Unt w U u c) (hc0 : 0 ≤ c) (hc : c < 1000000000) :
    Calls Try.prog 50 #[U, .agg #[.int .i64 7, .int .i64 a, .int .i64 b]] w (GotN w U u c (.int .i64 (a)) (ov (decide (0 < b)))) := by
  go_enter Try.func50, Try.ntmps50
  go_wp2_with (go_at_call 87; refine (utake_any U u c a (decide (0 < b)) _ (Unt.call hU (by repeat (first | (with_reducible exact Below.refl _ _) | (with_reducible assumption) | (with_reducible refine Below.drew ?_) | (with_reducible refine Below.alloc ?_ ?_ _) | (with_reducible refine Below.setCell ?_ ?_ _) | (with_reducible refine Below.trans ?_ (Below.mono hb ?_)) | (with_reducible refine Below.trans ?_ (Below.mono hb1 ?_)) | (with_reducible refine Below.trans ?_ (Below.mono hb2 ?_)) | (with_reducible refine Below.trans ?_ (Below.mono hb3 ?_)) | (with_reducible refine Below.trans ?_ (Below.mono hb4 ?_)) | (with_reducible refine Below.trans ?_ (Below.mono hb5 ?_)) | (with_reducible refine Below.trans ?_ (Below.mono hb6 ?_)) | (with_reducible refine Below.trans ?_ (Below.mono hb7 ?_)) | (with_reducible refine Below.trans ?_ (Below.mono hb8 ?_)) | (with_reducible refine Below.trans ?_ (Below.mono hb9 ?_)) | (focus (first | omega | (simp; done) | (simp; omega))) | exact hB))) hc0 hc).mono ?_; rintro e w9 ⟨rfl, hg, hV⟩)
  go_ret
  exact ⟨rfl, gr_trans (gr_below (by repeat (first | (with_reducible exact Below.refl _ _) | (with_reducible assumption) | (with_reducible refine Below.drew ?_) | (with_reducible refine Below.alloc ?_ ?_ _) | (with_reducible refine Below.setCell ?_ ?_ _) | (with_reducible refine Below.trans ?_ (Below.mono hb ?_)) | (with_reducible refine Below.trans ?_ (Below.mono hb1 ?_)) | (with_reducible refine Below.trans ?_ (Below.mono hb2 ?_)) | (with_reducible refine Below.trans ?_ (Below.mono hb3 ?_)) | (with_reducible refine Below.trans ?_ (Below.mono hb4 ?_)) | (with_reducible refine Below.trans ?_ (Below.mono hb5 ?_)) | (with_reducible refine Below.trans ?_ (Below.mono hb6 ?_)) | (with_reducible refine Below.trans ?_ (Below.mono hb7 ?_)) | (with_reducible refine Below.trans ?_ (Below.mono hb8 ?_)) | (with_reducible refine Below.trans ?_ (Below.mono hb9 ?_)) | (focus (first | omega | (simp; done) | (simp; omega))) | exact hB)) u) hg, hV⟩
set_option maxHeartbeats 1000000 in
theorem want_7 (a b : Int) (_ha : In64 a) (_hb0 : In64 b) (w : World) :
    Calls Try.prog 49 #[.agg #[.int .i64 7, .int .i64 a, .int .i64 b]] w fun e w' => e = .returned (.tuple #[.int .i64 (a), .bool (decide (0 < b))]) ∧ Below w.heap.size w w' := by
  go_enter Try.func49, Try.ntmps49
  go_upto_region 1 with (fail)
  refine at_world fun W0 hW0 => ?_
  have bx : W0.heap[w.heap.size]? = some (.cells #[.int .i64 7, .int .i64 a, .int .i64 b] 68 (0, 0)) := by subst hW0; exact heap_alloc_new w _
  have BW : Below w.heap.size w W0 := by subst hW0; exact (by repeat (first | (with_reducible exact Below.refl _ _) | (with_reducible assumption) | (with_reducible refine Below.drew ?_) | (with_reducible refine Below.alloc ?_ ?_ _) | (with_reducible refine Below.setCell ?_ ?_ _) | (with_reducible refine Below.trans ?_ (Below.mono hb ?_)) | (with_reducible refine Below.trans ?_ (Below.mono hb1 ?_)) | (with_reducible refine Below.trans ?_ (Below.mono hb2 ?_)) | (with_reducible refine Below.trans ?_ (Below.mono hb3 ?_)) | (with_reducible refine Below.trans ?_ (Below.mono hb4 ?_)) | (with_reducible refine Below.trans ?_ (Below.mono hb5 ?_)) | (with_reducible refine Below.trans ?_ (Below.mono hb6 ?_)) | (with_reducible refine Below.trans ?_ (Below.mono hb7 ?_)) | (with_reducible refine Below.trans ?_ (Below.mono hb8 ?_)) | (with_reducible refine Below.trans ?_ (Below.mono hb9 ?_)) | (focus (first | omega | (simp; done) | (simp; omega))) | exact hB))
  clear hW0
  have lx := lt_of_block bx
  have p1 := cell_of_row W0 w.heap.size 1 _ _ _ bx
  have p2 := cell_of_row W0 w.heap.size 2 _ _ _ bx
  simp only [List.getElem?_toArray, List.getElem?_cons_zero, List.getElem?_cons_succ] at p1 p2
  have j1 := pack_cell p1 lx
  have j2 := pack_cell p2 lx
  clear p1 p2
  refine wp_region_pack (by kernel_rfl) (by kernel_rfl) ?_
  repeat (first | go_big_quiet_skip | (go_big_quiet_want; go_big_quiet_op; first | go_big_quiet_on | (apply Exists.intro; refine ⟨fun npk => ?_, ?_⟩; (focus (first | fail)); go_big_quiet_on)))
  refine wpQuiet_nil ?_
  intro nq
  have bx1 := (nq.ok.block _ lx).trans bx
  have BQ := BW.trans (nq.ok.mono BW.size)
  clear j1 j2 bx BW lx
  generalize nq.w = W1 at *
  have lx := lt_of_block bx1
  have p0 := cell_of_row W1 w.heap.size 0 _ _ _ bx1
  simp only [List.getElem?_toArray, List.getElem?_cons_zero] at p0
  go_wp2_with fail
  go_ret2
  exact ⟨rfl, BQ⟩
set_option maxHeartbeats 1000000 in
theorem step_9 (U : Value) (u : Option Nat) (c a b : Int) (ha : In64 a) (hb0 : In64 b) (w : World) (hU : Unt w U u c) (hc0 : 0 ≤ c) (hc : c < 1000000000) :
    Calls Try.prog 50 #[U, .agg #[.int .i64 9, .int .i64 a, .int .i64 b]] w (GotN w U u c (.int .i64 (clampI (rnd (a * b) 4294967296))) (ov (overI (rnd (a * b) 4294967296)))) := by
  have bd := mul64_bd ha hb0
  have hs : In192 (a * b) := by unfold In192; omega
  have MU := Lib.hid (fun W => mul_any a b ha hb0 W)
  have EX := Lib.hid (fun W => ext_any (a * b) (by unfold In128; omega) W)
  clear bd
  go_enter Try.func50, Try.ntmps50
  go_wp2_with (first
    | (go_at_call 69; refine (MU.out _).mono ?_; rintro e w1 ⟨rfl, hb1⟩; obtain ⟨hc1, hf1, hz1⟩ := bcell hb1; (try simp at hz1); (try have : w.heap.size < w1.heap.size := by omega); (try have : w.heap.size + 1 < w1.heap.size := by omega); (try have : w.heap.size + 1 + 1 < w1.heap.size := by omega); (try have : w.heap.size + 1 + 1 + 1 < w1.heap.size := by omega); (try have : g < w1.heap.size := by omega); (try have : ga < w1.heap.size := by omega); (try have : gb < w1.heap.size := by omega); (try have : gc < w1.heap.size := by omega); have hB : Below w.heap.size w w1 := (by repeat (first | (with_reducible exact Below.refl _ _) | (with_reducible assumption) | (with_reducible refine Below.drew ?_) | (with_reducible refine Below.alloc ?_ ?_ _) | (with_reducible refine Below.setCell ?_ ?_ _) | (with_reducible refine Below.trans ?_ (Below.mono hb ?_)) | (with_reducible refine Below.trans ?_ (Below.mono hb1 ?_)) | (with_reducible refine Below.trans ?_ (Below.mono hb2 ?_)) | (with_reducible refine Below.trans ?_ (Below.mono hb3 ?_)) | (with_reducible refine Below.trans ?_ (Below.mono hb4 ?_)) | (with_reducible refine Below.trans ?_ (Below.mono hb5 ?_)) | (with_reducible refine Below.trans ?_ (Below.mono hb6 ?_)) | (with_reducible refine Below.trans ?_ (Below.mono hb7 ?_)) | (with_reducible refine Below.trans ?_ (Below.mono hb8 ?_)) | (with_reducible refine Below.trans ?_ (Below.mono hb9 ?_)) | (focus (first | omega | (simp; done) | (simp; omega))) | exact hB)))
    | (go_at_call 53; refine (EX.out _).mono ?_; rintro e w2 ⟨rfl, hb2⟩; obtain ⟨hc2, hf2, hz2⟩ := bcell hb2; (try simp at hz2); (try have : w.heap.size < w2.heap.size := by omega); (try have : w.heap.size + 1 < w2.heap.size := by omega); (try have : w.heap.size + 1 + 1 < w2.heap.size := by omega); (try have : w.heap.size + 1 + 1 + 1 < w2.heap.size := by omega); (try have : w1.heap.size < w2.heap.size := by omega); (try have : w1.heap.size + 1 < w2.heap.size := by omega); (try have : w1.heap.size + 1 + 1 < w2.heap.size := by omega); (try have : w1.heap.size + 1 + 1 + 1 < w2.heap.size := by omega); (try have : g < w2.heap.size := by omega); (try have : ga < w2.heap.size := by omega); (try have : gb < w2.heap.size := by omega); (try have : gc < w2.heap.size := by omega); have hB : Below w.heap.size w w2 := (by repeat (first | (with_reducible exact Below.refl _ _) | (with_reducible assumption) | (with_reducible refine Below.drew ?_) | (with_reducible refine Below.alloc ?_ ?_ _) | (with_reducible refine Below.setCell ?_ ?_ _) | (with_reducible refine Below.trans ?_ (Below.mono hb ?_)) | (with_reducible refine Below.trans ?_ (Below.mono hb1 ?_)) | (with_reducible refine Below.trans ?_ (Below.mono hb2 ?_)) | (with_reducible refine Below.trans ?_ (Below.mono hb3 ?_)) | (with_reducible refine Below.trans ?_ (Below.mono hb4 ?_)) | (with_reducible refine Below.trans ?_ (Below.mono hb5 ?_)) | (with_reducible refine Below.trans ?_ (Below.mono hb6 ?_)) | (with_reducible refine Below.trans ?_ (Below.mono hb7 ?_)) | (with_reducible refine Below.trans ?_ (Below.mono hb8 ?_)) | (with_reducible refine Below.trans ?_ (Below.mono hb9 ?_)) | (focus (first | omega | (simp; done) | (simp; omega))) | exact hB)))
    | (go_at_call 86; refine (unearf_any U u c (a * b) _ hs (Unt.call hU (by repeat (first | (with_reducible exact Below.refl _ _) | (with_reducible assumption) | (with_reducible refine Below.drew ?_) | (with_reducible refine Below.alloc ?_ ?_ _) | (with_reducible refine Below.setCell ?_ ?_ _) | (with_reducible refine Below.trans ?_ (Below.mono hb ?_)) | (with_reducible refine Below.trans ?_ (Below.mono hb1 ?_)) | (with_reducible refine Below.trans ?_ (Below.mono hb2 ?_)) | (with_reducible refine Below.trans ?_ (Below.mono hb3 ?_)) | (with_reducible refine Below.trans ?_ (Below.mono hb4 ?_)) | (with_reducible refine Below.trans ?_ (Below.mono hb5 ?_)) | (with_reducible refine Below.trans ?_ (Below.mono hb6 ?_)) | (with_reducible refine Below.trans ?_ (Below.mono hb7 ?_)) | (with_reducible refine Below.trans ?_ (Below.mono hb8 ?_)) | (with_reducible refine Below.trans ?_ (Below.mono hb9 ?_)) | (focus (first | omega | (simp; done) | (simp; omega))) | exact hB))) hc0 hc).mono ?_; rintro e w9 ⟨rfl, hg, hV⟩))
  go_ret
  exact ⟨rfl, gr_trans (gr_below (by repeat (first | (with_reducible exact Below.refl _ _) | (with_reducible assumption) | (with_reducible refine Below.drew ?_) | (with_reducible refine Below.alloc ?_ ?_ _) | (with_reducible refine Below.setCell ?_ ?_ _) | (with_reducible refine Below.trans ?_ (Below.mono hb ?_)) | (with_reducible refine Below.trans ?_ (Below.mono hb1 ?_)) | (with_reducible refine Below.trans ?_ (Below.mono hb2 ?_)) | (with_reducible refine Below.trans ?_ (Below.mono hb3 ?_)) | (with_reducible refine Below.trans ?_ (Below.mono hb4 ?_)) | (with_reducible refine Below.trans ?_ (Below.mono hb5 ?_)) | (with_reducible refine Below.trans ?_ (Below.mono hb6 ?_)) | (with_reducible refine Below.trans ?_ (Below.mono hb7 ?_)) | (with_reducible refine Below.trans ?_ (Below.mono hb8 ?_)) | (with_reducible refine Below.trans ?_ (Below.mono hb9 ?_)) | (focus (first | omega | (simp; done) | (simp; omega))) | exact hB)) u) hg, hV⟩
set_option maxHeartbeats 1000000 in
theorem want_9 (a b : Int) (ha : In64 a) (hb0 : In64 b) (w : World) :
    Calls Try.prog 49 #[.agg #[.int .i64 9, .int .i64 a, .int .i64 b]] w fun e w' => e = .returned (.tuple #[.int .i64 (clampI (rnd (a * b) 4294967296)), .bool (overI (rnd (a * b) 4294967296))]) ∧ Below w.heap.size w w' := by
  go_enter Try.func49, Try.ntmps49
  go_upto_region 1 with (fail)
  refine at_world fun W0 hW0 => ?_
  have bx : W0.heap[w.heap.size]? = some (.cells #[.int .i64 9, .int .i64 a, .int .i64 b] 68 (0, 0)) := by subst hW0; exact heap_alloc_new w _
  have BW : Below w.heap.size w W0 := by subst hW0; exact (by repeat (first | (with_reducible exact Below.refl _ _) | (with_reducible assumption) | (with_reducible refine Below.drew ?_) | (with_reducible refine Below.alloc ?_ ?_ _) | (with_reducible refine Below.setCell ?_ ?_ _) | (with_reducible refine Below.trans ?_ (Below.mono hb ?_)) | (with_reducible refine Below.trans ?_ (Below.mono hb1 ?_)) | (with_reducible refine Below.trans ?_ (Below.mono hb2 ?_)) | (with_reducible refine Below.trans ?_ (Below.mono hb3 ?_)) | (with_reducible refine Below.trans ?_ (Below.mono hb4 ?_)) | (with_reducible refine Below.trans ?_ (Below.mono hb5 ?_)) | (with_reducible refine Below.trans ?_ (Below.mono hb6 ?_)) | (with_reducible refine Below.trans ?_ (Below.mono hb7 ?_)) | (with_reducible refine Below.trans ?_ (Below.mono hb8 ?_)) | (with_reducible refine Below.trans ?_ (Below.mono hb9 ?_)) | (focus (first | omega | (simp; done) | (simp; omega))) | exact hB))
  clear hW0
  have lx := lt_of_block bx
  have p1 := cell_of_row W0 w.heap.size 1 _ _ _ bx
  have p2 := cell_of_row W0 w.heap.size 2 _ _ _ bx
  simp only [List.getElem?_toArray, List.getElem?_cons_zero, List.getElem?_cons_succ] at p1 p2
  have j1 := pack_cell p1 lx
  have j2 := pack_cell p2 lx
  clear p1 p2
  refine wp_region_pack (by kernel_rfl) (by kernel_rfl) ?_
  repeat (first | go_big_quiet_skip | (go_big_quiet_want; go_big_quiet_op; first | go_big_quiet_on | (apply Exists.intro; refine ⟨fun npk => ?_, ?_⟩; (focus (first | fail)); go_big_quiet_on)))
  refine wpQuiet_nil ?_
  intro nq
  have bx1 := (nq.ok.block _ lx).trans bx
  have BQ := BW.trans (nq.ok.mono BW.size)
  clear j1 j2 bx BW lx
  generalize nq.w = W1 at *
  have lx := lt_of_block bx1
  have p0 := cell_of_row W1 w.heap.size 0 _ _ _ bx1
  simp only [List.getElem?_toArray, List.getElem?_cons_zero] at p0
  go_wp2_with (go_at_call 27; refine (rmul_any a b ha hb0 _).mono ?_; rintro e w9 ⟨rfl, hb9⟩)
  go_ret2
  exact ⟨rfl, BQ.trans (hb9.mono BQ.size)⟩
theorem op_kind {k : Int} (h : 1 ≤ k) (h9 : k ≤ 9) (h8 : k ≠ 8) : k = 1 ∨ k = 2 ∨ k = 3 ∨ k = 4 ∨ k = 5 ∨ k = 6 ∨ k = 7 ∨ k = 9 := by omega
theorem step_any (U : Value) (u : Option Nat) (c k a b : Int) (hk : 1 ≤ k) (hk9 : k ≤ 9) (hk8 : k ≠ 8) (ha : In64 a) (hb0 : In64 b) (w : World) (hU : Unt w U u c) (hc0 : 0 ≤ c) (hc : c < 1000000000) :
    Calls Try.prog 50 #[U, .agg #[.int .i64 k, .int .i64 a, .int .i64 b]] w (GotN w U u c (.int .i64 (opV k a b)) (ov (opO k a b))) := by
  rcases op_kind hk hk9 hk8 with rfl | rfl | rfl | rfl | rfl | rfl | rfl | rfl
  · exact step_1 U u c a b ha hb0 w hU hc0 hc
  · exact step_2 U u c a b ha hb0 w hU hc0 hc
  · exact step_3 U u c a b ha hb0 w hU hc0 hc
  · exact step_4 U u c a b ha hb0 w hU hc0 hc
  · exact step_5 U u c a b ha hb0 w hU hc0 hc
  · exact step_6 U u c a b ha hb0 w hU hc0 hc
  · exact step_7 U u c a b ha hb0 w hU hc0 hc
  · exact step_9 U u c a b ha hb0 w hU hc0 hc
theorem want_any (k a b : Int) (hk : 1 ≤ k) (hk9 : k ≤ 9) (hk8 : k ≠ 8) (ha : In64 a) (hb0 : In64 b) (w : World) :
    Calls Try.prog 49 #[.agg #[.int .i64 k, .int .i64 a, .int .i64 b]] w fun e w' => e = .returned (.tuple #[.int .i64 (opV k a b), .bool (opO k a b)]) ∧ Below w.heap.size w w' := by
  rcases op_kind hk hk9 hk8 with rfl | rfl | rfl | rfl | rfl | rfl | rfl | rfl
  · exact want_1 a b ha hb0 w
  · exact want_2 a b ha hb0 w
  · exact want_3 a b ha hb0 w
  · exact want_4 a b ha hb0 w
  · exact want_5 a b ha hb0 w
  · exact want_6 a b ha hb0 w
  · exact want_7 a b ha hb0 w
  · exact want_9 a b ha hb0 w
end Go.Proofs.Ytjhepjmggenadaa
