import Derived.Test.YtikjomekhnkgcaaD3
/- Matrices times vectors: the code's. -/
namespace Go.Proofs.Ytikjomekhnkgcaa
open Go.RowKit
attribute [local go_sem ↓] Go.wp_at_zero Go.wp_at_succ

/-- A matrix's row, or column, times a vector. -/
def mvV (xs az : List Int) (c : Nat) (i : Nat) : Int := rnd (dotI xs az (i * c) 1 c) 4294967296
def vmV (xs az : List Int) (r c : Nat) (k : Nat) : Int := rnd (dotI xs az k c r) 4294967296
/-- What stands behind k numbers. -/
def VSt (w wr : World) (U : Value) (u : Option Nat) (c0 : Int) (r c : Nat) (A : Option Addr) (n cp : Nat) (v : Nat → Int) (k : Nat) (o : Value) : Prop :=
  OwnF (w.heap.size + 1) wr o (rowI v k) ∧ w.grownBy wr u ∧ Unt wr U u (c0 + cntI v k) ∧ wr.heap[w.heap.size]? = some (.cells #[.int .i64 r, .int .i64 c, .slice A n cp] 24 (0, 0))
theorem VSt.next {w wr w1 w2 w3 : World} {U : Value} {u : Option Nat} {c0 : Int} {r c : Nat} {A : Option Addr} {n cp : Nat} {v : Nat → Int} {k : Nat} {o o' : Value} (h : VSt w wr U u c0 r c A n cp v k o) (h1 : Below wr.heap.size wr w1) (h2 : w1.grownBy w2 u) (hu : ∀ g, u = some g → g < w.heap.size)
    (hV : Unt w2 U u (c0 + cntI v k + ov (overI (v k)))) (hown : w3.ownsRow (w.heap.size + 1) 28 1 o' (k + 1) ((rowI v k).map iv ++ [.int .i64 (clampI (v k))])) (h3 : Below (w.heap.size + 1) w2 w3) :
    VSt w w3 U u c0 r c A n cp v (k + 1) o' := by
  obtain ⟨_, g, _, b⟩ := h
  have hz := lt_of_block b
  have hz1 := h1.size
  have hz2 := h2.size
  refine ⟨own_next hown, ?_, ?_, ?_⟩
  · exact gr_low (gr_trans (gr_call g h1) h2) (h3.mono (by omega))
  · rw [cntI, ← Int.add_assoc]
    exact hV.low h3 (fun q hq => by have := hu q hq; omega)
  · exact (h3.block _ (by omega)).trans (hp_grown (hp_call b h1) h2 (fun e => by have := hu _ e.symm; omega))
set_option maxHeartbeats 4000000 in
theorem matvec_any (U : Value) (u : Option Nat) (c0 : Int) (r c : Nat) (A B : Option Addr) (n cp cq : Nat) (az xs : List Int) (w : World) (hM : MatOk r c n) (hA : Rd w u A n az) (hX : Rd w u B c xs) (ha : All64 az) (hx : All64 xs) (hU : Unt w U u c0) (hc0 : 0 ≤ c0) (hc : c0 < 900000000) :
    Calls Try.prog 16 #[U, .agg #[.int .i64 r, .int .i64 c, .slice A n cp], .slice B c cq] w (GotF2 w U u c0 (rowI (mvV xs az c) r) (cntI (mvV xs az c) r)) := by
  obtain ⟨m1, m2, m3, m4, m5, m6⟩ := id hM
  have hrc : (n : Int) = ((r * c : Nat) : Int) := by rw [m6, Int.natCast_mul]
  have hn : n ≤ 65536 := by omega
  have hmax : r ≤ 9223372036854775807 := by omega
  obtain ⟨i0, hi, yz0, yz1, yz2⟩ := info_parts infoFix
  have RI := Lib.hid (fun W => vright_ok r c A n cp W hM)
  have HA := Lib.hid hA
  have HX := Lib.hid hX
  have HU := Lib.hid hU
  have hul := hU.lt
  have HRC := Lib.hid hrc
  clear hA hX hU hM m5 m6 hrc
  go_enter Try.func16, Try.ntmps16
  go_wp2_with (first
    | (go_at_call 48; refine (fits1_yes B c cq _ _ (by simp) (by omega)).mono ?_; rintro e w1 ⟨rfl, rfl⟩)
    | (go_at_call 15; refine (RI.out _).mono ?_; rintro e w2 ⟨rfl, hb2⟩; obtain ⟨hc2, hf2, hz2⟩ := bcell hb2; (try simp at hz2); (try have : w.heap.size < w2.heap.size := by omega); (try have : w.heap.size + 1 < w2.heap.size := by omega); (try have : w.heap.size + 1 + 1 < w2.heap.size := by omega); (try have : w.heap.size + 1 + 1 + 1 < w2.heap.size := by omega); (try have : w1.heap.size < w2.heap.size := by omega); (try have : w1.heap.size + 1 < w2.heap.size := by omega); (try have : w1.heap.size + 1 + 1 < w2.heap.size := by omega); (try have : w1.heap.size + 1 + 1 + 1 < w2.heap.size := by omega); (try have : g < w2.heap.size := by omega); (try have : ga < w2.heap.size := by omega); (try have : gb < w2.heap.size := by omega); (try have : gc < w2.heap.size := by omega); have hB : Below w.heap.size w w2 := (by repeat (first | (with_reducible exact Below.refl _ _) | (with_reducible assumption) | (with_reducible refine Below.drew ?_) | (with_reducible refine Below.alloc ?_ ?_ _) | (with_reducible refine Below.setCell ?_ ?_ _) | (with_reducible refine Below.trans ?_ (Below.mono hb ?_)) | (with_reducible refine Below.trans ?_ (Below.mono hb1 ?_)) | (with_reducible refine Below.trans ?_ (Below.mono hb2 ?_)) | (with_reducible refine Below.trans ?_ (Below.mono hb3 ?_)) | (with_reducible refine Below.trans ?_ (Below.mono hb4 ?_)) | (with_reducible refine Below.trans ?_ (Below.mono hb5 ?_)) | (with_reducible refine Below.trans ?_ (Below.mono hb6 ?_)) | (with_reducible refine Below.trans ?_ (Below.mono hb7 ?_)) | (with_reducible refine Below.trans ?_ (Below.mono hb8 ?_)) | (with_reducible refine Below.trans ?_ (Below.mono hb9 ?_)) | (focus (first | omega | (simp; done) | (simp; omega))) | exact hB)))
    | (at_make; refine wpList_make_own _ rfl _ _ 22 rfl (w.heap.size + 1) 28 i0 (.int .i64 0) 1 Try.underlying22 hi yz0 yz1 .i64 .i64 r r rfl rfl rfl (by rw [yz2]; omega) (by unfold maxLen; omega) (by first | omega | (simp; done) | (simp; omega)) ?_; intro w3 hown hgrow; have hb3 : Below w2.heap.size w2 w3 := ⟨hgrow.os, hgrow.tape, hgrow.output, hgrow.size, fun k hk => hgrow.block k hk (by simp)⟩; obtain ⟨hc3, hf3, hz3⟩ := bcell hb3; have k3 : w.heap.size < w3.heap.size := by omega))
  have bM : w3.heap[w.heap.size]? = some (.cells #[.int .i64 r, .int .i64 c, .slice A n cp] 24 (0, 0)) := hp_call (hp_call (hp_alloc (heap_alloc_new w _) _) hb2) hb3
  have BW3 : Below w.heap.size w w3 := (by repeat (first | (with_reducible exact Below.refl _ _) | (with_reducible assumption) | (with_reducible refine Below.drew ?_) | (with_reducible refine Below.alloc ?_ ?_ _) | (with_reducible refine Below.setCell ?_ ?_ _) | (with_reducible refine Below.trans ?_ (Below.mono hb ?_)) | (with_reducible refine Below.trans ?_ (Below.mono hb1 ?_)) | (with_reducible refine Below.trans ?_ (Below.mono hb2 ?_)) | (with_reducible refine Below.trans ?_ (Below.mono hb3 ?_)) | (with_reducible refine Below.trans ?_ (Below.mono hb4 ?_)) | (with_reducible refine Below.trans ?_ (Below.mono hb5 ?_)) | (with_reducible refine Below.trans ?_ (Below.mono hb6 ?_)) | (with_reducible refine Below.trans ?_ (Below.mono hb7 ?_)) | (with_reducible refine Below.trans ?_ (Below.mono hb8 ?_)) | (with_reducible refine Below.trans ?_ (Below.mono hb9 ?_)) | (focus (first | omega | (simp; done) | (simp; omega))) | exact hB))
  have HI : ∀ o, w3.ownsRow (w.heap.size + 1) 28 1 o 0 [] → VSt w w3 U u c0 r c A n cp (mvV xs az c) 0 o := fun o h => ⟨h, gr_below BW3 u, by simpa [cntI] using HU.out.call BW3, bM⟩
  have HI := Lib.hid (HI _ hown)
  clear hown hgrow hb3 hc3 hf3 bM BW3 hb2 hc2 hf2 hB RI
  go_loopw [8, 31] (fun o i wr => ∃ k : Nat, k ≤ r ∧ i = .int .i64 k ∧ VSt w wr U u c0 r c A n cp (mvV xs az c) k o) (fun _ i _ => r - (intOf i).toNat)
  case atStart => exact ⟨0, Nat.zero_le _, rfl, HI.out⟩
  case round =>
    clear HI
    obtain ⟨k, hk, rfl, hS⟩ := hrel
    have hG := hS.2.1
    have hsz := hG.size
    by_cases hlt : k < r
    · have hcb := cntI_bound (mvV xs az c) k
      have lP := lt_of_block hS.2.2.2
      have p1 := cell_of_row wr w.heap.size 1 _ _ _ hS.2.2.2
      have p2 := cell_of_row wr w.heap.size 2 _ _ _ hS.2.2.2
      simp only [List.getElem?_toArray, List.getElem?_cons_zero, List.getElem?_cons_succ] at p1 p2
      have hbd := dotI_bd hx ha (k * c) 1 c
      have hi192 : In192 (dotI xs az (k * c) 1 c) := by unfold In192; omega
      have hkc : k * c + c ≤ n := by
        have h1 : (k + 1) * c ≤ r * c := Nat.mul_le_mul_right c (by omega)
        have h2 := HRC.out
        rw [Nat.succ_mul] at h1
        omega
      have DO := Lib.hid (fun W h1 h2 => dot_any B A c cq n cp (k * c) 1 xs az W (by omega) hn h1 h2 hx ha (fun j hj => by omega) (by omega))
      have UN := Lib.hid (fun W h => unear_any U u (c0 + cntI (mvV xs az c) k) (dotI xs az (k * c) 1 c) W hi192 h (by omega) (by omega))
      rw [show rnd (dotI xs az (k * c) 1 c) 4294967296 = mvV xs az c k from rfl] at UN
      obtain ⟨q, hq⟩ : ∃ q, q = k * c := ⟨_, rfl⟩
      have hq1 : (k : Int) * (c : Int) = (q : Int) := by rw [hq, Int.natCast_mul]
      rw [← hq] at DO UN hkc
      simp only [Int.natCast_one] at DO
      have i1 : IntKind.i64.wrap ((k : Int) * (c : Int)) = (q : Int) := by rw [hq1]; exact IntWalk.i64_in _ (by omega)
      have HS := Lib.hid hS
      have HG := Lib.hid hG
      clear hS hG hbd hi192 hq
      generalize dotI xs az q 1 c = s at *
      have hulB : ∀ g, u = some g → g < w.heap.size + 1 := fun g e => by have := hul g e; omega
      go_wp2_with (first
        | (go_at_call 50; refine (DO.out _ (HX.out.grown HG.out).anyu (HA.out.grown HG.out).anyu).mono ?_; rintro e y1 ⟨rfl, hb1⟩)
        | (go_at_call 49; refine (UN.out _ (HS.out.2.2.1.call hb1)).mono ?_; rintro e y2 ⟨rfl, hg2, hV2⟩; have zy1 := hb1.size; have zy2 := hg2.size)
        | (at_builtin; refine app_fix (B := w.heap.size + 1) (by omega) (own_row ((HS.out.1.low hb1).grown hg2 hulB)) (by omega) rfl rfl rfl _ rfl rfl ?_; intro v' y3 hown3 hb3))
      go_roundw
      case rel => exact ⟨k + 1, by omega, by simp, HS.out.next hb1 hg2 hul hV2 hown3 hb3⟩
      case measure => simp [intOf]; omega
    · obtain rfl : k = r := by omega
      go_wp2_with fail
      go_ret2
      exact ⟨_, rfl, hS.1.base (by omega), hG, hS.2.2.1⟩
set_option maxHeartbeats 4000000 in
theorem vecmat_any (U : Value) (u : Option Nat) (c0 : Int) (r c : Nat) (A B : Option Addr) (n cp cq : Nat) (az xs : List Int) (w : World) (hM : MatOk r c n) (hA : Rd w u A n az) (hX : Rd w u B r xs) (ha : All64 az) (hx : All64 xs) (hU : Unt w U u c0) (hc0 : 0 ≤ c0) (hc : c0 < 900000000) :
    Calls Try.prog 17 #[U, .slice B r cq, .agg #[.int .i64 r, .int .i64 c, .slice A n cp]] w (GotF2 w U u c0 (rowI (vmV xs az r c) c) (cntI (vmV xs az r c) c)) := by
  obtain ⟨m1, m2, m3, m4, m5, m6⟩ := id hM
  have hrc : (n : Int) = ((r * c : Nat) : Int) := by rw [m6, Int.natCast_mul]
  have hn : n ≤ 65536 := by omega
  have hmax : r ≤ 9223372036854775807 := by omega
  obtain ⟨i0, hi, yz0, yz1, yz2⟩ := info_parts infoFix
  have RI := Lib.hid (fun W => vright_ok r c A n cp W hM)
  have HA := Lib.hid hA
  have HX := Lib.hid hX
  have HU := Lib.hid hU
  have hul := hU.lt
  have HRC := Lib.hid hrc
  clear hA hX hU hM m5 m6 hrc
  go_enter Try.func17, Try.ntmps17
  go_wp2_with (first
    | (go_at_call 48; refine (fits1_yes B r cq _ _ (by simp) (by omega)).mono ?_; rintro e w1 ⟨rfl, rfl⟩)
    | (go_at_call 15; refine (RI.out _).mono ?_; rintro e w2 ⟨rfl, hb2⟩; obtain ⟨hc2, hf2, hz2⟩ := bcell hb2; (try simp at hz2); (try have : w.heap.size < w2.heap.size := by omega); (try have : w.heap.size + 1 < w2.heap.size := by omega); (try have : w.heap.size + 1 + 1 < w2.heap.size := by omega); (try have : w.heap.size + 1 + 1 + 1 < w2.heap.size := by omega); (try have : w1.heap.size < w2.heap.size := by omega); (try have : w1.heap.size + 1 < w2.heap.size := by omega); (try have : w1.heap.size + 1 + 1 < w2.heap.size := by omega); (try have : w1.heap.size + 1 + 1 + 1 < w2.heap.size := by omega); (try have : g < w2.heap.size := by omega); (try have : ga < w2.heap.size := by omega); (try have : gb < w2.heap.size := by omega); (try have : gc < w2.heap.size := by omega); have hB : Below w.heap.size w w2 := (by repeat (first | (with_reducible exact Below.refl _ _) | (with_reducible assumption) | (with_reducible refine Below.drew ?_) | (with_reducible refine Below.alloc ?_ ?_ _) | (with_reducible refine Below.setCell ?_ ?_ _) | (with_reducible refine Below.trans ?_ (Below.mono hb ?_)) | (with_reducible refine Below.trans ?_ (Below.mono hb1 ?_)) | (with_reducible refine Below.trans ?_ (Below.mono hb2 ?_)) | (with_reducible refine Below.trans ?_ (Below.mono hb3 ?_)) | (with_reducible refine Below.trans ?_ (Below.mono hb4 ?_)) | (with_reducible refine Below.trans ?_ (Below.mono hb5 ?_)) | (with_reducible refine Below.trans ?_ (Below.mono hb6 ?_)) | (with_reducible refine Below.trans ?_ (Below.mono hb7 ?_)) | (with_reducible refine Below.trans ?_ (Below.mono hb8 ?_)) | (with_reducible refine Below.trans ?_ (Below.mono hb9 ?_)) | (focus (first | omega | (simp; done) | (simp; omega))) | exact hB)))
    | (at_make; refine wpList_make_own _ rfl _ _ 22 rfl (w.heap.size + 1) 28 i0 (.int .i64 0) 1 Try.underlying22 hi yz0 yz1 .i64 .i64 c c rfl rfl rfl (by rw [yz2]; omega) (by unfold maxLen; omega) (by first | omega | (simp; done) | (simp; omega)) ?_; intro w3 hown hgrow; have hb3 : Below w2.heap.size w2 w3 := ⟨hgrow.os, hgrow.tape, hgrow.output, hgrow.size, fun k hk => hgrow.block k hk (by simp)⟩; obtain ⟨hc3, hf3, hz3⟩ := bcell hb3; have k3 : w.heap.size < w3.heap.size := by omega))
  have bM : w3.heap[w.heap.size]? = some (.cells #[.int .i64 r, .int .i64 c, .slice A n cp] 24 (0, 0)) := hp_call (hp_call (hp_alloc (heap_alloc_new w _) _) hb2) hb3
  have BW3 : Below w.heap.size w w3 := (by repeat (first | (with_reducible exact Below.refl _ _) | (with_reducible assumption) | (with_reducible refine Below.drew ?_) | (with_reducible refine Below.alloc ?_ ?_ _) | (with_reducible refine Below.setCell ?_ ?_ _) | (with_reducible refine Below.trans ?_ (Below.mono hb ?_)) | (with_reducible refine Below.trans ?_ (Below.mono hb1 ?_)) | (with_reducible refine Below.trans ?_ (Below.mono hb2 ?_)) | (with_reducible refine Below.trans ?_ (Below.mono hb3 ?_)) | (with_reducible refine Below.trans ?_ (Below.mono hb4 ?_)) | (with_reducible refine Below.trans ?_ (Below.mono hb5 ?_)) | (with_reducible refine Below.trans ?_ (Below.mono hb6 ?_)) | (with_reducible refine Below.trans ?_ (Below.mono hb7 ?_)) | (with_reducible refine Below.trans ?_ (Below.mono hb8 ?_)) | (with_reducible refine Below.trans ?_ (Below.mono hb9 ?_)) | (focus (first | omega | (simp; done) | (simp; omega))) | exact hB))
  have HI : ∀ o, w3.ownsRow (w.heap.size + 1) 28 1 o 0 [] → VSt w w3 U u c0 r c A n cp (vmV xs az r c) 0 o := fun o h => ⟨h, gr_below BW3 u, by simpa [cntI] using HU.out.call BW3, bM⟩
  have HI := Lib.hid (HI _ hown)
  clear hown hgrow hb3 hc3 hf3 bM BW3 hb2 hc2 hf2 hB RI
  go_loopw [8, 31] (fun o i wr => ∃ k : Nat, k ≤ c ∧ i = .int .i64 k ∧ VSt w wr U u c0 r c A n cp (vmV xs az r c) k o) (fun _ i _ => c - (intOf i).toNat)
  case atStart => exact ⟨0, Nat.zero_le _, rfl, HI.out⟩
  case round =>
    clear HI
    obtain ⟨k, hk, rfl, hS⟩ := hrel
    have hG := hS.2.1
    have hsz := hG.size
    by_cases hlt : k < c
    · have hcb := cntI_bound (vmV xs az r c) k
      have lP := lt_of_block hS.2.2.2
      have p1 := cell_of_row wr w.heap.size 1 _ _ _ hS.2.2.2
      have p2 := cell_of_row wr w.heap.size 2 _ _ _ hS.2.2.2
      simp only [List.getElem?_toArray, List.getElem?_cons_zero, List.getElem?_cons_succ] at p1 p2
      have hbd := dotI_bd hx ha k c r
      have hi192 : In192 (dotI xs az k c r) := by unfold In192; omega
      have hin : ∀ j, j < r → k + j * c < n := by
        intro j hj
        have h1 : (j + 1) * c ≤ r * c := Nat.mul_le_mul_right c (by omega)
        have h2 := HRC.out
        rw [Nat.succ_mul] at h1
        omega
      have DO := Lib.hid (fun W h1 h2 => dot_any B A r cq n cp k c xs az W (by omega) hn h1 h2 hx ha hin (by omega))
      have UN := Lib.hid (fun W h => unear_any U u (c0 + cntI (vmV xs az r c) k) (dotI xs az k c r) W hi192 h (by omega) (by omega))
      rw [show rnd (dotI xs az k c r) 4294967296 = vmV xs az r c k from rfl] at UN
      have HS := Lib.hid hS
      have HG := Lib.hid hG
      clear hS hG hbd hi192 hin
      generalize dotI xs az k c r = s at *
      have hulB : ∀ g, u = some g → g < w.heap.size + 1 := fun g e => by have := hul g e; omega
      go_wp2_with (first
        | (go_at_call 50; refine (DO.out _ (HX.out.grown HG.out).anyu (HA.out.grown HG.out).anyu).mono ?_; rintro e y1 ⟨rfl, hb1⟩)
        | (go_at_call 49; refine (UN.out _ (HS.out.2.2.1.call hb1)).mono ?_; rintro e y2 ⟨rfl, hg2, hV2⟩; have zy1 := hb1.size; have zy2 := hg2.size)
        | (at_builtin; refine app_fix (B := w.heap.size + 1) (by omega) (own_row ((HS.out.1.low hb1).grown hg2 hulB)) (by omega) rfl rfl rfl _ rfl rfl ?_; intro v' y3 hown3 hb3))
      go_roundw
      case rel => exact ⟨k + 1, by omega, by simp, HS.out.next hb1 hg2 hul hV2 hown3 hb3⟩
      case measure => simp [intOf]; omega
    · obtain rfl : k = c := by omega
      go_wp2_with fail
      go_ret2
      exact ⟨_, rfl, hS.1.base (by omega), hG, hS.2.2.1⟩
end Go.Proofs.Ytikjomekhnkgcaa
