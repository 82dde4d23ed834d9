import Derived.Test.YtikjomekhnkgcaaE10
/- The law VecLimits, walked. -/
namespace Go.Proofs.Ytikjomekhnkgcaa
open Go.RowKit
attribute [local go_sem ↓] Go.wp_at_zero Go.wp_at_succ

theorem own_rd5 {B n : Nat} {w : World} {V : Value} {xs : List Int} (h : OwnF B w V xs) (hl : xs.length = n) : ∃ A c, V = .slice A n c ∧ Rd w none A n xs := by
  subst hl
  obtain ⟨A, c, e, hr⟩ := own_apart (S := fun _ => False) h fun g _ hs => hs
  exact ⟨A, c, e, hr.none_⟩
theorem rd_zeros (w : World) (n : Nat) (hn : n ≤ 1000000) : Rd (w.alloc (.cells (madeCells #[.int .i64 0] n) 28)) none (some ⟨w.heap.size, 0, none⟩) n (List.replicate n 0) := by
  obtain ⟨A, c, e, h⟩ := own_rd5 (own_zeros w n hn) (List.length_replicate ..)
  simp only [Value.slice.injEq] at e
  obtain ⟨rfl, _, _⟩ := e
  exact h
theorem rd_oneF {w : World} {g : Nat} {T : TypeId} {a : Int} (h : w.heap[g]? = some (.cells #[.int .i64 a] T (0, 0))) : Rd w none (some ⟨g, 0, none⟩) 1 [a] :=
  ⟨rfl, fun _ => ⟨g, 0, rfl, lt_of_block h, by simp, fun j hj => by
    have e : j = 0 := by omega
    subst e
    exact cell_of_row w g 0 _ _ _ h⟩⟩
theorem all_one : All64 [1] := by
  intro j
  match j with
  | 0 => show In64 1; unfold In64; omega
  | j + 1 => have e : ([1] : List Int).getD (j + 1) 0 = 0 := (by simp); rw [e]; unfold In64; omega
set_option maxHeartbeats 8000000 in
set_option maxRecDepth 100000 in
theorem vlim_ok (n : Nat) (w : World) (h1 : 65533 ≤ n) (h2 : n ≤ 65536) :
    Calls Try.prog 12 #[.int .i64 n] w fun e w' => e = .returned (.bool true) ∧ Below w.heap.size w w' := by
  have AW := Lib.hid (fun W => awake4_any W)
  have hmk := run_zeros n (by omega)
  have d1 : decide ((n : Int) < 65533) = false := decide_eq_false (by omega)
  have d2 : decide ((65539 : Int) < (n : Int)) = false := decide_eq_false (by omega)
  have d3 : decide ((65536 : Int) < (n : Int)) = false := decide_eq_false (by omega)
  have d4 : decide ((n : Int) ≤ 65536) = true := decide_eq_true (by omega)
  go_enter Try.func12, Try.ntmps12
  go_upto_region 5 with (go_at_call 13; refine (AW.out _).mono ?_; rintro e w1 ⟨rfl, hb1⟩; obtain ⟨hc1, hf1, hz1⟩ := bcell hb1; (try simp at hz1); (try have : w.heap.size < w1.heap.size := by omega); (try have : w.heap.size + 1 < w1.heap.size := by omega); (try have : w.heap.size + 1 + 1 < w1.heap.size := by omega); (try have : w.heap.size + 1 + 1 + 1 < w1.heap.size := by omega); (try have : g < w1.heap.size := by omega); (try have : ga < w1.heap.size := by omega); (try have : gb < w1.heap.size := by omega); (try have : gc < w1.heap.size := by omega); have hB : Below w.heap.size w w1 := (by repeat (first | (with_reducible exact Below.refl _ _) | (with_reducible assumption) | (with_reducible refine Below.drew ?_) | (with_reducible refine Below.alloc ?_ ?_ _) | (with_reducible refine Below.setCell ?_ ?_ _) | (with_reducible refine Below.trans ?_ (Below.mono hb ?_)) | (with_reducible refine Below.trans ?_ (Below.mono hb1 ?_)) | (with_reducible refine Below.trans ?_ (Below.mono hb2 ?_)) | (with_reducible refine Below.trans ?_ (Below.mono hb3 ?_)) | (with_reducible refine Below.trans ?_ (Below.mono hb4 ?_)) | (with_reducible refine Below.trans ?_ (Below.mono hb5 ?_)) | (with_reducible refine Below.trans ?_ (Below.mono hb6 ?_)) | (with_reducible refine Below.trans ?_ (Below.mono hb7 ?_)) | (with_reducible refine Below.trans ?_ (Below.mono hb8 ?_)) | (with_reducible refine Below.trans ?_ (Below.mono hb9 ?_)) | (focus (first | omega | (simp; done) | (simp; omega))) | exact hB)))
  go_upto_region 6 with (fail)
  refine at_world fun W0 hW0 => ?_
  have rd0 : Rd W0 none (some ⟨w1.heap.size, 0, none⟩) n (List.replicate n 0) := by subst hW0; exact rd_zeros w1 n (by omega)
  have B0 : Below w.heap.size w W0 := by subst hW0; exact (by repeat (first | (with_reducible exact Below.refl _ _) | (with_reducible assumption) | (with_reducible refine Below.drew ?_) | (with_reducible refine Below.alloc ?_ ?_ _) | (with_reducible refine Below.setCell ?_ ?_ _) | (with_reducible refine Below.trans ?_ (Below.mono hb ?_)) | (with_reducible refine Below.trans ?_ (Below.mono hb1 ?_)) | (with_reducible refine Below.trans ?_ (Below.mono hb2 ?_)) | (with_reducible refine Below.trans ?_ (Below.mono hb3 ?_)) | (with_reducible refine Below.trans ?_ (Below.mono hb4 ?_)) | (with_reducible refine Below.trans ?_ (Below.mono hb5 ?_)) | (with_reducible refine Below.trans ?_ (Below.mono hb6 ?_)) | (with_reducible refine Below.trans ?_ (Below.mono hb7 ?_)) | (with_reducible refine Below.trans ?_ (Below.mono hb8 ?_)) | (with_reducible refine Below.trans ?_ (Below.mono hb9 ?_)) | (focus (first | omega | (simp; done) | (simp; omega))) | exact hB))
  clear hW0 hb1 hc1 hf1 hB hmk
  obtain ⟨A, hA⟩ : ∃ A, A = (some ⟨w1.heap.size, 0, none⟩ : Option Addr) := ⟨_, rfl⟩
  rw [← hA] at rd0
  rw [← hA]
  clear hA
  have az := all_zero0 n
  have g6 : n ≤ 65536 := h2
  have hn0 : 0 < n := by omega
  obtain ⟨zs, hzs⟩ : ∃ zs, zs = List.replicate n (0 : Int) := ⟨_, rfl⟩
  rw [← hzs] at rd0 az
  clear hzs
  go_wp2_with fail
  refine (vsum_any (.pointer none) none 0 A n n zs _ g6 rd0 az (Unt.nil _ _) (by omega) (by omega)).mono ?_
  rintro e y1 ⟨rfl, hg, _⟩
  have hb1 := gr_none hg
  have rd1 := rd0.call hb1
  have B1 := B0.trans (hb1.mono B0.size)
  clear hb1 rd0
  go_wp2_with fail
  refine (vnorm_any (.pointer none) none 0 A n n zs _ g6 rd1 az (Unt.nil _ _) (by omega) (by omega)).mono ?_
  rintro e y2 ⟨rfl, hg, _⟩
  have hb2 := gr_none hg
  have rd2 := rd1.call hb2
  have B2 := B1.trans (hb2.mono B1.size)
  clear hb2 rd1
  go_wp2_with fail
  refine (vscale_any A n n zs (.pointer none) none 0 1 _ (by unfold In64; omega) az g6 rd2 (Unt.nil _ _) (by omega) (by omega)).mono ?_
  rintro e y3 ⟨V, rfl, _, hg, _⟩
  have hb3 := gr_none hg
  have rd3 := rd2.call hb3
  have B3 := B2.trans (hb3.mono B2.size)
  clear hb3 rd2
  go_wp2_with fail
  refine (vclip_low A n n zs (.pointer none) none 0 0 _ (by omega) g6 rd3 (Unt.nil _ _)).mono ?_
  rintro e y4 ⟨V2, rfl, _, hg, _⟩
  have hb4 := gr_none hg
  have rd4 := rd3.call hb4
  have B4 := B3.trans (hb4.mono B3.size)
  clear hb4 rd3
  go_wp2_with fail
  refine (vmean_any (.pointer none) none 0 A n n zs _ g6 hn0 rd4 az (Unt.nil _ _) (by omega) (by omega)).mono ?_
  rintro e y5 ⟨rfl, hg, _⟩
  have hb5 := gr_none hg
  have rd5 := rd4.call hb5
  have B5 := B4.trans (hb5.mono B4.size)
  clear hb5 rd4
  go_wp2_with fail
  refine (vdot_shape5 A none n 0 n 0 (.pointer none) _ g6 (by omega) (by omega)).mono ?_
  rintro e y6 ⟨rfl, hb⟩
  have hb6 := hb
  have rd6 := rd5.call hb6
  have B6 := B5.trans (hb6.mono B5.size)
  clear hb6 rd5
  go_wp2_with fail
  refine (vouter_gen A _ n 1 n 1 zs [1] (.pointer none) none 0 _ az all_one g6 (by omega) (by omega) hn0 (by omega) (rd_alloc rd6 _) (rd_oneF (newest_at _ _ rfl)) (Unt.nil _ _) (by omega) (by omega)).mono ?_
  rintro e y7 ⟨V3, rfl, hO3, hg, _⟩
  have hb7 : Below y6.heap.size y6 y7 := ((Below.refl _ _).alloc (Nat.le_refl _) _).trans ((gr_none hg).mono (by simp))
  obtain ⟨A3, c3, rfl, _⟩ := own_rd5 hO3 (outL_len _ _ _ _)
  have rd7 := rd6.call hb7
  have B7 := B6.trans (hb7.mono B6.size)
  clear hb7 rd6
  go_upto_region 16 with (fail)
  refine at_world fun W8 hW8 => ?_
  have bb8 : Below y7.heap.size y7 W8 := by subst hW8; exact (Below.refl _ _).alloc (Nat.le_refl _) _
  have rd7 := rd7.call bb8
  have B7 := B7.trans (bb8.mono B7.size)
  clear hW8 bb8
  go_wp2_with fail
  refine (matvec_no5 (.pointer none) 0 0 none A 0 n 0 n _ g6 (by unfold MatOk; omega)).mono ?_
  rintro e y8 ⟨rfl, hb⟩
  have hb8 := hb
  have rd8 := rd7.call hb8
  have B8 := B7.trans (hb8.mono B7.size)
  clear hb8 rd7
  go_wp2_with fail
  refine (vright_ok 1 n A n n _ ⟨by omega, by omega, by omega, by omega, by omega, by omega⟩).mono ?_
  rintro e y9 ⟨rfl, hb⟩
  go_wp2_with fail
  go_ret
  exact ⟨rfl, B8.trans (hb.mono B8.size)⟩
set_option maxHeartbeats 8000000 in
set_option maxRecDepth 100000 in
theorem vlim_big (n : Nat) (w : World) (h1 : 65536 < n) (h2 : n ≤ 65539) :
    Calls Try.prog 12 #[.int .i64 n] w fun e w' => e = .returned (.bool true) ∧ Below w.heap.size w w' := by
  have AW := Lib.hid (fun W => awake4_any W)
  have hmk := run_zeros n (by omega)
  have d1 : decide ((n : Int) < 65533) = false := decide_eq_false (by omega)
  have d2 : decide ((65539 : Int) < (n : Int)) = false := decide_eq_false (by omega)
  have d3 : decide ((65536 : Int) < (n : Int)) = true := decide_eq_true (by omega)
  have d4 : decide ((n : Int) ≤ 65536) = false := decide_eq_false (by omega)
  go_enter Try.func12, Try.ntmps12
  go_upto_region 5 with (go_at_call 13; refine (AW.out _).mono ?_; rintro e w1 ⟨rfl, hb1⟩; obtain ⟨hc1, hf1, hz1⟩ := bcell hb1; (try simp at hz1); (try have : w.heap.size < w1.heap.size := by omega); (try have : w.heap.size + 1 < w1.heap.size := by omega); (try have : w.heap.size + 1 + 1 < w1.heap.size := by omega); (try have : w.heap.size + 1 + 1 + 1 < w1.heap.size := by omega); (try have : g < w1.heap.size := by omega); (try have : ga < w1.heap.size := by omega); (try have : gb < w1.heap.size := by omega); (try have : gc < w1.heap.size := by omega); have hB : Below w.heap.size w w1 := (by repeat (first | (with_reducible exact Below.refl _ _) | (with_reducible assumption) | (with_reducible refine Below.drew ?_) | (with_reducible refine Below.alloc ?_ ?_ _) | (with_reducible refine Below.setCell ?_ ?_ _) | (with_reducible refine Below.trans ?_ (Below.mono hb ?_)) | (with_reducible refine Below.trans ?_ (Below.mono hb1 ?_)) | (with_reducible refine Below.trans ?_ (Below.mono hb2 ?_)) | (with_reducible refine Below.trans ?_ (Below.mono hb3 ?_)) | (with_reducible refine Below.trans ?_ (Below.mono hb4 ?_)) | (with_reducible refine Below.trans ?_ (Below.mono hb5 ?_)) | (with_reducible refine Below.trans ?_ (Below.mono hb6 ?_)) | (with_reducible refine Below.trans ?_ (Below.mono hb7 ?_)) | (with_reducible refine Below.trans ?_ (Below.mono hb8 ?_)) | (with_reducible refine Below.trans ?_ (Below.mono hb9 ?_)) | (focus (first | omega | (simp; done) | (simp; omega))) | exact hB)))
  go_upto_region 6 with (fail)
  refine at_world fun W0 hW0 => ?_
  have rd0 : Rd W0 none (some ⟨w1.heap.size, 0, none⟩) n (List.replicate n 0) := by subst hW0; exact rd_zeros w1 n (by omega)
  have B0 : Below w.heap.size w W0 := by subst hW0; exact (by repeat (first | (with_reducible exact Below.refl _ _) | (with_reducible assumption) | (with_reducible refine Below.drew ?_) | (with_reducible refine Below.alloc ?_ ?_ _) | (with_reducible refine Below.setCell ?_ ?_ _) | (with_reducible refine Below.trans ?_ (Below.mono hb ?_)) | (with_reducible refine Below.trans ?_ (Below.mono hb1 ?_)) | (with_reducible refine Below.trans ?_ (Below.mono hb2 ?_)) | (with_reducible refine Below.trans ?_ (Below.mono hb3 ?_)) | (with_reducible refine Below.trans ?_ (Below.mono hb4 ?_)) | (with_reducible refine Below.trans ?_ (Below.mono hb5 ?_)) | (with_reducible refine Below.trans ?_ (Below.mono hb6 ?_)) | (with_reducible refine Below.trans ?_ (Below.mono hb7 ?_)) | (with_reducible refine Below.trans ?_ (Below.mono hb8 ?_)) | (with_reducible refine Below.trans ?_ (Below.mono hb9 ?_)) | (focus (first | omega | (simp; done) | (simp; omega))) | exact hB))
  clear hW0 hb1 hc1 hf1 hB hmk
  obtain ⟨A, hA⟩ : ∃ A, A = (some ⟨w1.heap.size, 0, none⟩ : Option Addr) := ⟨_, rfl⟩
  rw [← hA] at rd0
  rw [← hA]
  clear hA
  have az := all_zero0 n
  go_wp2_with fail
  refine (big_Sum A n n _ (by omega)).mono ?_
  rintro e y1 ⟨rfl, hb⟩
  have hb1 := hb
  have rd1 := rd0.call hb1
  have B1 := B0.trans (hb1.mono B0.size)
  clear hb1 rd0
  go_wp2_with fail
  refine (big_Norm A n n _ (by omega)).mono ?_
  rintro e y2 ⟨rfl, hb⟩
  have hb2 := hb
  have rd2 := rd1.call hb2
  have B2 := B1.trans (hb2.mono B1.size)
  clear hb2 rd1
  go_wp2_with fail
  refine (big_Scale A n n _ (by omega)).mono ?_
  rintro e y3 ⟨rfl, hb⟩
  have hb3 := hb
  have rd3 := rd2.call hb3
  have B3 := B2.trans (hb3.mono B2.size)
  clear hb3 rd2
  go_wp2_with fail
  refine (big_Clip A n n _ (by omega)).mono ?_
  rintro e y4 ⟨rfl, hb⟩
  have hb4 := hb
  have rd4 := rd3.call hb4
  have B4 := B3.trans (hb4.mono B3.size)
  clear hb4 rd3
  go_wp2_with fail
  refine (big_Mean A n n _ (by omega)).mono ?_
  rintro e y5 ⟨rfl, hb⟩
  have hb5 := hb
  have rd5 := rd4.call hb5
  have B5 := B4.trans (hb5.mono B4.size)
  clear hb5 rd4
  go_wp2_with fail
  refine (big_Dot A none n 0 n 0 _ (by omega)).mono ?_
  rintro e y6 ⟨rfl, hb⟩
  have hb6 := hb
  have rd6 := rd5.call hb6
  have B6 := B5.trans (hb6.mono B5.size)
  clear hb6 rd5
  go_wp2_with fail
  refine (big_Outer A _ n 1 n 1 _ (by omega)).mono ?_
  rintro e y7 ⟨rfl, hb⟩
  have hb7 : Below y6.heap.size y6 y7 := ((Below.refl _ _).alloc (Nat.le_refl _) _).trans (hb.mono (by simp))
  have rd7 := rd6.call hb7
  have B7 := B6.trans (hb7.mono B6.size)
  clear hb7 rd6
  go_upto_region 16 with (fail)
  refine at_world fun W8 hW8 => ?_
  have bb8 : Below y7.heap.size y7 W8 := by subst hW8; exact (Below.refl _ _).alloc (Nat.le_refl _) _
  have rd7 := rd7.call bb8
  have B7 := B7.trans (bb8.mono B7.size)
  clear hW8 bb8
  go_wp2_with fail
  refine (big_MatVec A n n _ (by omega)).mono ?_
  rintro e y8 ⟨rfl, hb⟩
  have hb8 := hb
  have rd8 := rd7.call hb8
  have B8 := B7.trans (hb8.mono B7.size)
  clear hb8 rd7
  go_wp2_with fail
  refine (vright_no 1 n A n n _ (by unfold MatOk; omega)).mono ?_
  rintro e y9 ⟨rfl, hb⟩
  go_wp2_with fail
  go_ret
  exact ⟨rfl, B8.trans (hb.mono B8.size)⟩
theorem vecLimits_walk (n : Int) (i0 : In64 n) (w : World) :
    Calls Try.prog 12 #[.int .i64 n] w fun e w' => e = .returned (.bool true) ∧ Below w.heap.size w w' := by
  have AW := Lib.hid (fun W => awake4_any W)
  by_cases h1 : n < 65533
  · have d1 : decide (n < 65533) = true := decide_eq_true h1
    clear h1 i0
    go_enter Try.func12, Try.ntmps12
    go_wp2_with (go_at_call 13; refine (AW.out _).mono ?_; rintro e w1 ⟨rfl, hb1⟩; obtain ⟨hc1, hf1, hz1⟩ := bcell hb1; (try simp at hz1); (try have : w.heap.size < w1.heap.size := by omega); (try have : w.heap.size + 1 < w1.heap.size := by omega); (try have : w.heap.size + 1 + 1 < w1.heap.size := by omega); (try have : w.heap.size + 1 + 1 + 1 < w1.heap.size := by omega); (try have : g < w1.heap.size := by omega); (try have : ga < w1.heap.size := by omega); (try have : gb < w1.heap.size := by omega); (try have : gc < w1.heap.size := by omega); have hB : Below w.heap.size w w1 := (by repeat (first | (with_reducible exact Below.refl _ _) | (with_reducible assumption) | (with_reducible refine Below.drew ?_) | (with_reducible refine Below.alloc ?_ ?_ _) | (with_reducible refine Below.setCell ?_ ?_ _) | (with_reducible refine Below.trans ?_ (Below.mono hb ?_)) | (with_reducible refine Below.trans ?_ (Below.mono hb1 ?_)) | (with_reducible refine Below.trans ?_ (Below.mono hb2 ?_)) | (with_reducible refine Below.trans ?_ (Below.mono hb3 ?_)) | (with_reducible refine Below.trans ?_ (Below.mono hb4 ?_)) | (with_reducible refine Below.trans ?_ (Below.mono hb5 ?_)) | (with_reducible refine Below.trans ?_ (Below.mono hb6 ?_)) | (with_reducible refine Below.trans ?_ (Below.mono hb7 ?_)) | (with_reducible refine Below.trans ?_ (Below.mono hb8 ?_)) | (with_reducible refine Below.trans ?_ (Below.mono hb9 ?_)) | (focus (first | omega | (simp; done) | (simp; omega))) | exact hB)))
    go_ret
    exact ⟨rfl, (by repeat (first | (with_reducible exact Below.refl _ _) | (with_reducible assumption) | (with_reducible refine Below.drew ?_) | (with_reducible refine Below.alloc ?_ ?_ _) | (with_reducible refine Below.setCell ?_ ?_ _) | (with_reducible refine Below.trans ?_ (Below.mono hb ?_)) | (with_reducible refine Below.trans ?_ (Below.mono hb1 ?_)) | (with_reducible refine Below.trans ?_ (Below.mono hb2 ?_)) | (with_reducible refine Below.trans ?_ (Below.mono hb3 ?_)) | (with_reducible refine Below.trans ?_ (Below.mono hb4 ?_)) | (with_reducible refine Below.trans ?_ (Below.mono hb5 ?_)) | (with_reducible refine Below.trans ?_ (Below.mono hb6 ?_)) | (with_reducible refine Below.trans ?_ (Below.mono hb7 ?_)) | (with_reducible refine Below.trans ?_ (Below.mono hb8 ?_)) | (with_reducible refine Below.trans ?_ (Below.mono hb9 ?_)) | (focus (first | omega | (simp; done) | (simp; omega))) | exact hB))⟩
  · by_cases h2 : 65539 < n
    · have d1 : decide (n < 65533) = false := decide_eq_false h1
      have d2 : decide ((65539 : Int) < n) = true := decide_eq_true h2
      clear h1 h2 i0
      go_enter Try.func12, Try.ntmps12
      go_wp2_with (go_at_call 13; refine (AW.out _).mono ?_; rintro e w1 ⟨rfl, hb1⟩; obtain ⟨hc1, hf1, hz1⟩ := bcell hb1; (try simp at hz1); (try have : w.heap.size < w1.heap.size := by omega); (try have : w.heap.size + 1 < w1.heap.size := by omega); (try have : w.heap.size + 1 + 1 < w1.heap.size := by omega); (try have : w.heap.size + 1 + 1 + 1 < w1.heap.size := by omega); (try have : g < w1.heap.size := by omega); (try have : ga < w1.heap.size := by omega); (try have : gb < w1.heap.size := by omega); (try have : gc < w1.heap.size := by omega); have hB : Below w.heap.size w w1 := (by repeat (first | (with_reducible exact Below.refl _ _) | (with_reducible assumption) | (with_reducible refine Below.drew ?_) | (with_reducible refine Below.alloc ?_ ?_ _) | (with_reducible refine Below.setCell ?_ ?_ _) | (with_reducible refine Below.trans ?_ (Below.mono hb ?_)) | (with_reducible refine Below.trans ?_ (Below.mono hb1 ?_)) | (with_reducible refine Below.trans ?_ (Below.mono hb2 ?_)) | (with_reducible refine Below.trans ?_ (Below.mono hb3 ?_)) | (with_reducible refine Below.trans ?_ (Below.mono hb4 ?_)) | (with_reducible refine Below.trans ?_ (Below.mono hb5 ?_)) | (with_reducible refine Below.trans ?_ (Below.mono hb6 ?_)) | (with_reducible refine Below.trans ?_ (Below.mono hb7 ?_)) | (with_reducible refine Below.trans ?_ (Below.mono hb8 ?_)) | (with_reducible refine Below.trans ?_ (Below.mono hb9 ?_)) | (focus (first | omega | (simp; done) | (simp; omega))) | exact hB)))
      go_ret
      exact ⟨rfl, (by repeat (first | (with_reducible exact Below.refl _ _) | (with_reducible assumption) | (with_reducible refine Below.drew ?_) | (with_reducible refine Below.alloc ?_ ?_ _) | (with_reducible refine Below.setCell ?_ ?_ _) | (with_reducible refine Below.trans ?_ (Below.mono hb ?_)) | (with_reducible refine Below.trans ?_ (Below.mono hb1 ?_)) | (with_reducible refine Below.trans ?_ (Below.mono hb2 ?_)) | (with_reducible refine Below.trans ?_ (Below.mono hb3 ?_)) | (with_reducible refine Below.trans ?_ (Below.mono hb4 ?_)) | (with_reducible refine Below.trans ?_ (Below.mono hb5 ?_)) | (with_reducible refine Below.trans ?_ (Below.mono hb6 ?_)) | (with_reducible refine Below.trans ?_ (Below.mono hb7 ?_)) | (with_reducible refine Below.trans ?_ (Below.mono hb8 ?_)) | (with_reducible refine Below.trans ?_ (Below.mono hb9 ?_)) | (focus (first | omega | (simp; done) | (simp; omega))) | exact hB))⟩
    · obtain ⟨m, rfl⟩ := Int.eq_ofNat_of_zero_le (show 0 ≤ n by omega)
      by_cases h3 : m ≤ 65536
      · exact vlim_ok m w (by omega) h3
      · exact vlim_big m w (by omega) (by omega)
end Go.Proofs.Ytikjomekhnkgcaa
