import Derived.Test.YtikjomekhnkgcaaE4
import Derived.Test.YtikjomekhnkgcaaD4
/- Matrices: the reference's, the law's. -/
namespace Go.Proofs.Ytikjomekhnkgcaa
open Go.RowKit
attribute [local go_sem ↓] Go.wp_at_zero Go.wp_at_succ

theorem rd_part4 {w : World} {u : Option Nat} {b off n : Nat} {xs : List Int} (h : Rd w u (some ⟨b, off, none⟩) n xs) (q m : Nat) (hm : q + m ≤ n) (hn : 0 < n) : Rd w u (some ⟨b, off + q, none⟩) m ((xs.drop q).take m) := by
  refine ⟨by rw [List.length_take, List.length_drop, h.1]; omega, fun hm0 => ?_⟩
  obtain ⟨b', off', e, hb, hne, hc⟩ := h.2 hn
  injection e with e
  injection e with e1 e2 _
  subst e1 e2
  refine ⟨b, off + q, rfl, hb, hne, fun j hj => ?_⟩
  have := hc (q + j) (by omega)
  rw [← Nat.add_assoc] at this
  rw [this, List.getD_eq_getElem?_getD, List.getD_eq_getElem?_getD, List.getElem?_take_of_lt hj, List.getElem?_drop]
theorem part_get4 {xs : List Int} {q m j : Nat} (hj : j < m) : ((xs.drop q).take m).getD j 0 = xs.getD (q + j) 0 := by
  rw [List.getD_eq_getElem?_getD, List.getD_eq_getElem?_getD, List.getElem?_take_of_lt hj, List.getElem?_drop]
theorem part_all4 {xs : List Int} (h : All64 xs) (q m : Nat) : All64 ((xs.drop q).take m) := by
  intro j
  rcases Nat.lt_or_ge j m with hj | hj
  · rw [part_get4 hj]; exact h _
  · have e : ((xs.drop q).take m).getD j 0 = 0 := by rw [List.getD_eq_getElem?_getD, List.getElem?_eq_none (by rw [List.length_take]; omega)]; rfl
    rw [e]; unfold In64; omega
theorem part_dot4 {xs az : List Int} {c i : Nat} : rnd (dotI ((az.drop (i * c)).take c) xs 0 1 c) 4294967296 = mvV xs az c i := by
  unfold mvV
  rw [dotI_congr (n := c) (zs := xs) (vs := az) (g := i * c) (aq := 1) (fun k hk => ?_) c (Nat.le_refl _)]
  rw [part_get4 hk, Nat.mul_one, Nat.zero_add, Int.mul_comm]
def colL (az : List Int) (c k : Nat) (j : Nat) : List Int := (List.range j).map fun i => az.getD (i * c + k) 0
theorem colL_len (az : List Int) (c k j : Nat) : (colL az c k j).length = j := by simp [colL]
theorem colL_succ (az : List Int) (c k j : Nat) : colL az c k (j + 1) = colL az c k j ++ [az.getD (j * c + k) 0] := by simp [colL, List.range_succ]
theorem colL_get (az : List Int) (c k : Nat) {j i : Nat} (h : i < j) : (colL az c k j).getD i 0 = az.getD (i * c + k) 0 := by
  simp [colL, List.getD_eq_getElem?_getD, List.getElem?_map, List.getElem?_range h]
theorem colL_all {az : List Int} (ha : All64 az) (c k j : Nat) : All64 (colL az c k j) := by
  intro i
  rcases Nat.lt_or_ge i j with h | h
  · rw [colL_get _ _ _ h]; exact ha _
  · have e : (colL az c k j).getD i 0 = 0 := by rw [List.getD_eq_getElem?_getD, List.getElem?_eq_none (by rw [colL_len]; exact h)]; rfl
    rw [e]; unfold In64; omega
theorem col_dot {xs az : List Int} {r c k : Nat} : rnd (dotI xs (colL az c k r) 0 1 r) 4294967296 = vmV xs az r c k := by
  unfold vmV
  rw [dotI_congr (n := r) (zs := xs) (vs := az) (g := k) (aq := c) (fun i hi => ?_) r (Nat.le_refl _)]
  rw [Nat.mul_one, Nat.zero_add, colL_get _ _ _ hi, Nat.add_comm]
theorem rright_ok (r c : Int) (A : Option Addr) (n cp : Nat) (w : World) (h : MatOk r c n) :
    Calls Try.prog 20 #[.agg #[.int .i64 r, .int .i64 c, .slice A n cp]] w fun e w' => e = .returned (.bool true) ∧ Below w.heap.size w w' := by
  obtain ⟨h1, h2, h3, h4, h5, h6⟩ := h
  have hb := mul_bd h1 h2 h3 h4
  have hw : IntKind.i64.wrap (r * c) = r * c := IntWalk.i64_in _ (by omega)
  generalize hp : r * c = p at *
  have h7 : ((n : Int) == p) = true := by simpa using h6
  clear h6
  go_enter Try.func20, Try.ntmps20
  go_wp2
  go_ret
  first | exact ⟨rfl, (by repeat (first | (with_reducible exact Below.refl _ _) | (with_reducible assumption) | (with_reducible refine Below.drew ?_) | (with_reducible refine Below.alloc ?_ ?_ _) | (with_reducible refine Below.setCell ?_ ?_ _) | (with_reducible refine Below.trans ?_ (Below.mono hb ?_)) | (with_reducible refine Below.trans ?_ (Below.mono hb1 ?_)) | (with_reducible refine Below.trans ?_ (Below.mono hb2 ?_)) | (with_reducible refine Below.trans ?_ (Below.mono hb3 ?_)) | (with_reducible refine Below.trans ?_ (Below.mono hb4 ?_)) | (with_reducible refine Below.trans ?_ (Below.mono hb5 ?_)) | (with_reducible refine Below.trans ?_ (Below.mono hb6 ?_)) | (with_reducible refine Below.trans ?_ (Below.mono hb7 ?_)) | (with_reducible refine Below.trans ?_ (Below.mono hb8 ?_)) | (with_reducible refine Below.trans ?_ (Below.mono hb9 ?_)) | (focus (first | omega | (simp; done) | (simp; omega))) | exact hB))⟩ | exact ⟨by simp; omega, (by repeat (first | (with_reducible exact Below.refl _ _) | (with_reducible assumption) | (with_reducible refine Below.drew ?_) | (with_reducible refine Below.alloc ?_ ?_ _) | (with_reducible refine Below.setCell ?_ ?_ _) | (with_reducible refine Below.trans ?_ (Below.mono hb ?_)) | (with_reducible refine Below.trans ?_ (Below.mono hb1 ?_)) | (with_reducible refine Below.trans ?_ (Below.mono hb2 ?_)) | (with_reducible refine Below.trans ?_ (Below.mono hb3 ?_)) | (with_reducible refine Below.trans ?_ (Below.mono hb4 ?_)) | (with_reducible refine Below.trans ?_ (Below.mono hb5 ?_)) | (with_reducible refine Below.trans ?_ (Below.mono hb6 ?_)) | (with_reducible refine Below.trans ?_ (Below.mono hb7 ?_)) | (with_reducible refine Below.trans ?_ (Below.mono hb8 ?_)) | (with_reducible refine Below.trans ?_ (Below.mono hb9 ?_)) | (focus (first | omega | (simp; done) | (simp; omega))) | exact hB))⟩
theorem rright_no (r c : Int) (A : Option Addr) (n cp : Nat) (w : World) (h : ¬ MatOk r c n) :
    Calls Try.prog 20 #[.agg #[.int .i64 r, .int .i64 c, .slice A n cp]] w fun e w' => e = .returned (.bool false) ∧ Below w.heap.size w w' := by
  unfold MatOk at h
  by_cases h1 : r < 1
  · clear h
    go_enter Try.func20, Try.ntmps20
    go_wp2
    go_ret
    first | exact ⟨rfl, (by repeat (first | (with_reducible exact Below.refl _ _) | (with_reducible assumption) | (with_reducible refine Below.drew ?_) | (with_reducible refine Below.alloc ?_ ?_ _) | (with_reducible refine Below.setCell ?_ ?_ _) | (with_reducible refine Below.trans ?_ (Below.mono hb ?_)) | (with_reducible refine Below.trans ?_ (Below.mono hb1 ?_)) | (with_reducible refine Below.trans ?_ (Below.mono hb2 ?_)) | (with_reducible refine Below.trans ?_ (Below.mono hb3 ?_)) | (with_reducible refine Below.trans ?_ (Below.mono hb4 ?_)) | (with_reducible refine Below.trans ?_ (Below.mono hb5 ?_)) | (with_reducible refine Below.trans ?_ (Below.mono hb6 ?_)) | (with_reducible refine Below.trans ?_ (Below.mono hb7 ?_)) | (with_reducible refine Below.trans ?_ (Below.mono hb8 ?_)) | (with_reducible refine Below.trans ?_ (Below.mono hb9 ?_)) | (focus (first | omega | (simp; done) | (simp; omega))) | exact hB))⟩ | exact ⟨by simp; omega, (by repeat (first | (with_reducible exact Below.refl _ _) | (with_reducible assumption) | (with_reducible refine Below.drew ?_) | (with_reducible refine Below.alloc ?_ ?_ _) | (with_reducible refine Below.setCell ?_ ?_ _) | (with_reducible refine Below.trans ?_ (Below.mono hb ?_)) | (with_reducible refine Below.trans ?_ (Below.mono hb1 ?_)) | (with_reducible refine Below.trans ?_ (Below.mono hb2 ?_)) | (with_reducible refine Below.trans ?_ (Below.mono hb3 ?_)) | (with_reducible refine Below.trans ?_ (Below.mono hb4 ?_)) | (with_reducible refine Below.trans ?_ (Below.mono hb5 ?_)) | (with_reducible refine Below.trans ?_ (Below.mono hb6 ?_)) | (with_reducible refine Below.trans ?_ (Below.mono hb7 ?_)) | (with_reducible refine Below.trans ?_ (Below.mono hb8 ?_)) | (with_reducible refine Below.trans ?_ (Below.mono hb9 ?_)) | (focus (first | omega | (simp; done) | (simp; omega))) | exact hB))⟩
  · by_cases h2 : c < 1
    · clear h
      go_enter Try.func20, Try.ntmps20
      go_wp2
      go_ret
      first | exact ⟨rfl, (by repeat (first | (with_reducible exact Below.refl _ _) | (with_reducible assumption) | (with_reducible refine Below.drew ?_) | (with_reducible refine Below.alloc ?_ ?_ _) | (with_reducible refine Below.setCell ?_ ?_ _) | (with_reducible refine Below.trans ?_ (Below.mono hb ?_)) | (with_reducible refine Below.trans ?_ (Below.mono hb1 ?_)) | (with_reducible refine Below.trans ?_ (Below.mono hb2 ?_)) | (with_reducible refine Below.trans ?_ (Below.mono hb3 ?_)) | (with_reducible refine Below.trans ?_ (Below.mono hb4 ?_)) | (with_reducible refine Below.trans ?_ (Below.mono hb5 ?_)) | (with_reducible refine Below.trans ?_ (Below.mono hb6 ?_)) | (with_reducible refine Below.trans ?_ (Below.mono hb7 ?_)) | (with_reducible refine Below.trans ?_ (Below.mono hb8 ?_)) | (with_reducible refine Below.trans ?_ (Below.mono hb9 ?_)) | (focus (first | omega | (simp; done) | (simp; omega))) | exact hB))⟩ | exact ⟨by simp; omega, (by repeat (first | (with_reducible exact Below.refl _ _) | (with_reducible assumption) | (with_reducible refine Below.drew ?_) | (with_reducible refine Below.alloc ?_ ?_ _) | (with_reducible refine Below.setCell ?_ ?_ _) | (with_reducible refine Below.trans ?_ (Below.mono hb ?_)) | (with_reducible refine Below.trans ?_ (Below.mono hb1 ?_)) | (with_reducible refine Below.trans ?_ (Below.mono hb2 ?_)) | (with_reducible refine Below.trans ?_ (Below.mono hb3 ?_)) | (with_reducible refine Below.trans ?_ (Below.mono hb4 ?_)) | (with_reducible refine Below.trans ?_ (Below.mono hb5 ?_)) | (with_reducible refine Below.trans ?_ (Below.mono hb6 ?_)) | (with_reducible refine Below.trans ?_ (Below.mono hb7 ?_)) | (with_reducible refine Below.trans ?_ (Below.mono hb8 ?_)) | (with_reducible refine Below.trans ?_ (Below.mono hb9 ?_)) | (focus (first | omega | (simp; done) | (simp; omega))) | exact hB))⟩
    · by_cases h3 : 65536 < r
      · clear h
        go_enter Try.func20, Try.ntmps20
        go_wp2
        go_ret
        first | exact ⟨rfl, (by repeat (first | (with_reducible exact Below.refl _ _) | (with_reducible assumption) | (with_reducible refine Below.drew ?_) | (with_reducible refine Below.alloc ?_ ?_ _) | (with_reducible refine Below.setCell ?_ ?_ _) | (with_reducible refine Below.trans ?_ (Below.mono hb ?_)) | (with_reducible refine Below.trans ?_ (Below.mono hb1 ?_)) | (with_reducible refine Below.trans ?_ (Below.mono hb2 ?_)) | (with_reducible refine Below.trans ?_ (Below.mono hb3 ?_)) | (with_reducible refine Below.trans ?_ (Below.mono hb4 ?_)) | (with_reducible refine Below.trans ?_ (Below.mono hb5 ?_)) | (with_reducible refine Below.trans ?_ (Below.mono hb6 ?_)) | (with_reducible refine Below.trans ?_ (Below.mono hb7 ?_)) | (with_reducible refine Below.trans ?_ (Below.mono hb8 ?_)) | (with_reducible refine Below.trans ?_ (Below.mono hb9 ?_)) | (focus (first | omega | (simp; done) | (simp; omega))) | exact hB))⟩ | exact ⟨by simp; omega, (by repeat (first | (with_reducible exact Below.refl _ _) | (with_reducible assumption) | (with_reducible refine Below.drew ?_) | (with_reducible refine Below.alloc ?_ ?_ _) | (with_reducible refine Below.setCell ?_ ?_ _) | (with_reducible refine Below.trans ?_ (Below.mono hb ?_)) | (with_reducible refine Below.trans ?_ (Below.mono hb1 ?_)) | (with_reducible refine Below.trans ?_ (Below.mono hb2 ?_)) | (with_reducible refine Below.trans ?_ (Below.mono hb3 ?_)) | (with_reducible refine Below.trans ?_ (Below.mono hb4 ?_)) | (with_reducible refine Below.trans ?_ (Below.mono hb5 ?_)) | (with_reducible refine Below.trans ?_ (Below.mono hb6 ?_)) | (with_reducible refine Below.trans ?_ (Below.mono hb7 ?_)) | (with_reducible refine Below.trans ?_ (Below.mono hb8 ?_)) | (with_reducible refine Below.trans ?_ (Below.mono hb9 ?_)) | (focus (first | omega | (simp; done) | (simp; omega))) | exact hB))⟩
      · by_cases h4 : 65536 < c
        · clear h
          go_enter Try.func20, Try.ntmps20
          go_wp2
          go_ret
          first | exact ⟨rfl, (by repeat (first | (with_reducible exact Below.refl _ _) | (with_reducible assumption) | (with_reducible refine Below.drew ?_) | (with_reducible refine Below.alloc ?_ ?_ _) | (with_reducible refine Below.setCell ?_ ?_ _) | (with_reducible refine Below.trans ?_ (Below.mono hb ?_)) | (with_reducible refine Below.trans ?_ (Below.mono hb1 ?_)) | (with_reducible refine Below.trans ?_ (Below.mono hb2 ?_)) | (with_reducible refine Below.trans ?_ (Below.mono hb3 ?_)) | (with_reducible refine Below.trans ?_ (Below.mono hb4 ?_)) | (with_reducible refine Below.trans ?_ (Below.mono hb5 ?_)) | (with_reducible refine Below.trans ?_ (Below.mono hb6 ?_)) | (with_reducible refine Below.trans ?_ (Below.mono hb7 ?_)) | (with_reducible refine Below.trans ?_ (Below.mono hb8 ?_)) | (with_reducible refine Below.trans ?_ (Below.mono hb9 ?_)) | (focus (first | omega | (simp; done) | (simp; omega))) | exact hB))⟩ | exact ⟨by simp; omega, (by repeat (first | (with_reducible exact Below.refl _ _) | (with_reducible assumption) | (with_reducible refine Below.drew ?_) | (with_reducible refine Below.alloc ?_ ?_ _) | (with_reducible refine Below.setCell ?_ ?_ _) | (with_reducible refine Below.trans ?_ (Below.mono hb ?_)) | (with_reducible refine Below.trans ?_ (Below.mono hb1 ?_)) | (with_reducible refine Below.trans ?_ (Below.mono hb2 ?_)) | (with_reducible refine Below.trans ?_ (Below.mono hb3 ?_)) | (with_reducible refine Below.trans ?_ (Below.mono hb4 ?_)) | (with_reducible refine Below.trans ?_ (Below.mono hb5 ?_)) | (with_reducible refine Below.trans ?_ (Below.mono hb6 ?_)) | (with_reducible refine Below.trans ?_ (Below.mono hb7 ?_)) | (with_reducible refine Below.trans ?_ (Below.mono hb8 ?_)) | (with_reducible refine Below.trans ?_ (Below.mono hb9 ?_)) | (focus (first | omega | (simp; done) | (simp; omega))) | exact hB))⟩
        · have hb := mul_bd (show 1 ≤ r by omega) (show 1 ≤ c by omega) (by omega) (by omega)
          have hw : IntKind.i64.wrap (r * c) = r * c := IntWalk.i64_in _ (by omega)
          generalize hp : r * c = p at *
          by_cases h5 : 65536 < p
          · clear h
            go_enter Try.func20, Try.ntmps20
            go_wp2
            go_ret
            first | exact ⟨rfl, (by repeat (first | (with_reducible exact Below.refl _ _) | (with_reducible assumption) | (with_reducible refine Below.drew ?_) | (with_reducible refine Below.alloc ?_ ?_ _) | (with_reducible refine Below.setCell ?_ ?_ _) | (with_reducible refine Below.trans ?_ (Below.mono hb ?_)) | (with_reducible refine Below.trans ?_ (Below.mono hb1 ?_)) | (with_reducible refine Below.trans ?_ (Below.mono hb2 ?_)) | (with_reducible refine Below.trans ?_ (Below.mono hb3 ?_)) | (with_reducible refine Below.trans ?_ (Below.mono hb4 ?_)) | (with_reducible refine Below.trans ?_ (Below.mono hb5 ?_)) | (with_reducible refine Below.trans ?_ (Below.mono hb6 ?_)) | (with_reducible refine Below.trans ?_ (Below.mono hb7 ?_)) | (with_reducible refine Below.trans ?_ (Below.mono hb8 ?_)) | (with_reducible refine Below.trans ?_ (Below.mono hb9 ?_)) | (focus (first | omega | (simp; done) | (simp; omega))) | exact hB))⟩ | exact ⟨by simp; omega, (by repeat (first | (with_reducible exact Below.refl _ _) | (with_reducible assumption) | (with_reducible refine Below.drew ?_) | (with_reducible refine Below.alloc ?_ ?_ _) | (with_reducible refine Below.setCell ?_ ?_ _) | (with_reducible refine Below.trans ?_ (Below.mono hb ?_)) | (with_reducible refine Below.trans ?_ (Below.mono hb1 ?_)) | (with_reducible refine Below.trans ?_ (Below.mono hb2 ?_)) | (with_reducible refine Below.trans ?_ (Below.mono hb3 ?_)) | (with_reducible refine Below.trans ?_ (Below.mono hb4 ?_)) | (with_reducible refine Below.trans ?_ (Below.mono hb5 ?_)) | (with_reducible refine Below.trans ?_ (Below.mono hb6 ?_)) | (with_reducible refine Below.trans ?_ (Below.mono hb7 ?_)) | (with_reducible refine Below.trans ?_ (Below.mono hb8 ?_)) | (with_reducible refine Below.trans ?_ (Below.mono hb9 ?_)) | (focus (first | omega | (simp; done) | (simp; omega))) | exact hB))⟩
          · have h7 : ((n : Int) == p) = false := by simp; omega
            clear h
            go_enter Try.func20, Try.ntmps20
            go_wp2
            go_ret
            first | exact ⟨rfl, (by repeat (first | (with_reducible exact Below.refl _ _) | (with_reducible assumption) | (with_reducible refine Below.drew ?_) | (with_reducible refine Below.alloc ?_ ?_ _) | (with_reducible refine Below.setCell ?_ ?_ _) | (with_reducible refine Below.trans ?_ (Below.mono hb ?_)) | (with_reducible refine Below.trans ?_ (Below.mono hb1 ?_)) | (with_reducible refine Below.trans ?_ (Below.mono hb2 ?_)) | (with_reducible refine Below.trans ?_ (Below.mono hb3 ?_)) | (with_reducible refine Below.trans ?_ (Below.mono hb4 ?_)) | (with_reducible refine Below.trans ?_ (Below.mono hb5 ?_)) | (with_reducible refine Below.trans ?_ (Below.mono hb6 ?_)) | (with_reducible refine Below.trans ?_ (Below.mono hb7 ?_)) | (with_reducible refine Below.trans ?_ (Below.mono hb8 ?_)) | (with_reducible refine Below.trans ?_ (Below.mono hb9 ?_)) | (focus (first | omega | (simp; done) | (simp; omega))) | exact hB))⟩ | exact ⟨by simp; omega, (by repeat (first | (with_reducible exact Below.refl _ _) | (with_reducible assumption) | (with_reducible refine Below.drew ?_) | (with_reducible refine Below.alloc ?_ ?_ _) | (with_reducible refine Below.setCell ?_ ?_ _) | (with_reducible refine Below.trans ?_ (Below.mono hb ?_)) | (with_reducible refine Below.trans ?_ (Below.mono hb1 ?_)) | (with_reducible refine Below.trans ?_ (Below.mono hb2 ?_)) | (with_reducible refine Below.trans ?_ (Below.mono hb3 ?_)) | (with_reducible refine Below.trans ?_ (Below.mono hb4 ?_)) | (with_reducible refine Below.trans ?_ (Below.mono hb5 ?_)) | (with_reducible refine Below.trans ?_ (Below.mono hb6 ?_)) | (with_reducible refine Below.trans ?_ (Below.mono hb7 ?_)) | (with_reducible refine Below.trans ?_ (Below.mono hb8 ?_)) | (with_reducible refine Below.trans ?_ (Below.mono hb9 ?_)) | (focus (first | omega | (simp; done) | (simp; omega))) | exact hB))⟩
/-! ### the code's refusals -/
theorem matvec_no (U : Value) (r c : Int) (A B : Option Addr) (n m cp cq : Nat) (w : World) (hm : m ≤ 65536) (h : ¬ (MatOk r c n ∧ (m : Int) = c)) :
    Calls Try.prog 16 #[U, .agg #[.int .i64 r, .int .i64 c, .slice A n cp], .slice B m cq] w fun e w' => e = .returned (.tuple #[.slice none 0 0, .int .i64 40]) ∧ Below w.heap.size w w' := by
  have FI := Lib.hid (fun g W h => fits1_yes B m cq g W h hm)
  by_cases hM : MatOk r c n
  · have RI := Lib.hid (fun W => vright_ok r c A n cp W hM)
    have e1 : ((m : Int) != c) = true := by simp only [bne_iff_ne]; exact fun e => h ⟨hM, e⟩
    clear h hM
    go_enter Try.func16, Try.ntmps16
    go_wp2_with (first
      | (go_at_call 48; refine (FI.out _ _ (by simp)).mono ?_; rintro e w1 ⟨rfl, rfl⟩)
      | (go_at_call 15; refine (RI.out _).mono ?_; rintro e w2 ⟨rfl, hb2⟩; obtain ⟨hc2, hf2, hz2⟩ := bcell hb2; (try simp at hz2); (try have : w.heap.size < w2.heap.size := by omega); (try have : w.heap.size + 1 < w2.heap.size := by omega); (try have : w.heap.size + 1 + 1 < w2.heap.size := by omega); (try have : w.heap.size + 1 + 1 + 1 < w2.heap.size := by omega); (try have : w1.heap.size < w2.heap.size := by omega); (try have : w1.heap.size + 1 < w2.heap.size := by omega); (try have : w1.heap.size + 1 + 1 < w2.heap.size := by omega); (try have : w1.heap.size + 1 + 1 + 1 < w2.heap.size := by omega); (try have : g < w2.heap.size := by omega); (try have : ga < w2.heap.size := by omega); (try have : gb < w2.heap.size := by omega); (try have : gc < w2.heap.size := by omega); have hB : Below w.heap.size w w2 := (by repeat (first | (with_reducible exact Below.refl _ _) | (with_reducible assumption) | (with_reducible refine Below.drew ?_) | (with_reducible refine Below.alloc ?_ ?_ _) | (with_reducible refine Below.setCell ?_ ?_ _) | (with_reducible refine Below.trans ?_ (Below.mono hb ?_)) | (with_reducible refine Below.trans ?_ (Below.mono hb1 ?_)) | (with_reducible refine Below.trans ?_ (Below.mono hb2 ?_)) | (with_reducible refine Below.trans ?_ (Below.mono hb3 ?_)) | (with_reducible refine Below.trans ?_ (Below.mono hb4 ?_)) | (with_reducible refine Below.trans ?_ (Below.mono hb5 ?_)) | (with_reducible refine Below.trans ?_ (Below.mono hb6 ?_)) | (with_reducible refine Below.trans ?_ (Below.mono hb7 ?_)) | (with_reducible refine Below.trans ?_ (Below.mono hb8 ?_)) | (with_reducible refine Below.trans ?_ (Below.mono hb9 ?_)) | (focus (first | omega | (simp; done) | (simp; omega))) | exact hB))))
    go_ret2
    exact ⟨rfl, (by repeat (first | (with_reducible exact Below.refl _ _) | (with_reducible assumption) | (with_reducible refine Below.drew ?_) | (with_reducible refine Below.alloc ?_ ?_ _) | (with_reducible refine Below.setCell ?_ ?_ _) | (with_reducible refine Below.trans ?_ (Below.mono hb ?_)) | (with_reducible refine Below.trans ?_ (Below.mono hb1 ?_)) | (with_reducible refine Below.trans ?_ (Below.mono hb2 ?_)) | (with_reducible refine Below.trans ?_ (Below.mono hb3 ?_)) | (with_reducible refine Below.trans ?_ (Below.mono hb4 ?_)) | (with_reducible refine Below.trans ?_ (Below.mono hb5 ?_)) | (with_reducible refine Below.trans ?_ (Below.mono hb6 ?_)) | (with_reducible refine Below.trans ?_ (Below.mono hb7 ?_)) | (with_reducible refine Below.trans ?_ (Below.mono hb8 ?_)) | (with_reducible refine Below.trans ?_ (Below.mono hb9 ?_)) | (focus (first | omega | (simp; done) | (simp; omega))) | exact hB))⟩
  · have RI := Lib.hid (fun W => vright_no r c A n cp W hM)
    clear h hM
    go_enter Try.func16, Try.ntmps16
    go_wp2_with (first
      | (go_at_call 48; refine (FI.out _ _ (by simp)).mono ?_; rintro e w1 ⟨rfl, rfl⟩)
      | (go_at_call 15; refine (RI.out _).mono ?_; rintro e w2 ⟨rfl, hb2⟩; obtain ⟨hc2, hf2, hz2⟩ := bcell hb2; (try simp at hz2); (try have : w.heap.size < w2.heap.size := by omega); (try have : w.heap.size + 1 < w2.heap.size := by omega); (try have : w.heap.size + 1 + 1 < w2.heap.size := by omega); (try have : w.heap.size + 1 + 1 + 1 < w2.heap.size := by omega); (try have : w1.heap.size < w2.heap.size := by omega); (try have : w1.heap.size + 1 < w2.heap.size := by omega); (try have : w1.heap.size + 1 + 1 < w2.heap.size := by omega); (try have : w1.heap.size + 1 + 1 + 1 < w2.heap.size := by omega); (try have : g < w2.heap.size := by omega); (try have : ga < w2.heap.size := by omega); (try have : gb < w2.heap.size := by omega); (try have : gc < w2.heap.size := by omega); have hB : Below w.heap.size w w2 := (by repeat (first | (with_reducible exact Below.refl _ _) | (with_reducible assumption) | (with_reducible refine Below.drew ?_) | (with_reducible refine Below.alloc ?_ ?_ _) | (with_reducible refine Below.setCell ?_ ?_ _) | (with_reducible refine Below.trans ?_ (Below.mono hb ?_)) | (with_reducible refine Below.trans ?_ (Below.mono hb1 ?_)) | (with_reducible refine Below.trans ?_ (Below.mono hb2 ?_)) | (with_reducible refine Below.trans ?_ (Below.mono hb3 ?_)) | (with_reducible refine Below.trans ?_ (Below.mono hb4 ?_)) | (with_reducible refine Below.trans ?_ (Below.mono hb5 ?_)) | (with_reducible refine Below.trans ?_ (Below.mono hb6 ?_)) | (with_reducible refine Below.trans ?_ (Below.mono hb7 ?_)) | (with_reducible refine Below.trans ?_ (Below.mono hb8 ?_)) | (with_reducible refine Below.trans ?_ (Below.mono hb9 ?_)) | (focus (first | omega | (simp; done) | (simp; omega))) | exact hB))))
    go_ret2
    exact ⟨rfl, (by repeat (first | (with_reducible exact Below.refl _ _) | (with_reducible assumption) | (with_reducible refine Below.drew ?_) | (with_reducible refine Below.alloc ?_ ?_ _) | (with_reducible refine Below.setCell ?_ ?_ _) | (with_reducible refine Below.trans ?_ (Below.mono hb ?_)) | (with_reducible refine Below.trans ?_ (Below.mono hb1 ?_)) | (with_reducible refine Below.trans ?_ (Below.mono hb2 ?_)) | (with_reducible refine Below.trans ?_ (Below.mono hb3 ?_)) | (with_reducible refine Below.trans ?_ (Below.mono hb4 ?_)) | (with_reducible refine Below.trans ?_ (Below.mono hb5 ?_)) | (with_reducible refine Below.trans ?_ (Below.mono hb6 ?_)) | (with_reducible refine Below.trans ?_ (Below.mono hb7 ?_)) | (with_reducible refine Below.trans ?_ (Below.mono hb8 ?_)) | (with_reducible refine Below.trans ?_ (Below.mono hb9 ?_)) | (focus (first | omega | (simp; done) | (simp; omega))) | exact hB))⟩
theorem vecmat_no (U : Value) (r c : Int) (A B : Option Addr) (n m cp cq : Nat) (w : World) (hm : m ≤ 65536) (h : ¬ (MatOk r c n ∧ (m : Int) = r)) :
    Calls Try.prog 17 #[U, .slice B m cq, .agg #[.int .i64 r, .int .i64 c, .slice A n cp]] w fun e w' => e = .returned (.tuple #[.slice none 0 0, .int .i64 40]) ∧ Below w.heap.size w w' := by
  have FI := Lib.hid (fun g W h => fits1_yes B m cq g W h hm)
  by_cases hM : MatOk r c n
  · have RI := Lib.hid (fun W => vright_ok r c A n cp W hM)
    have e1 : ((m : Int) != r) = true := by simp only [bne_iff_ne]; exact fun e => h ⟨hM, e⟩
    clear h hM
    go_enter Try.func17, Try.ntmps17
    go_wp2_with (first
      | (go_at_call 48; refine (FI.out _ _ (by simp)).mono ?_; rintro e w1 ⟨rfl, rfl⟩)
      | (go_at_call 15; refine (RI.out _).mono ?_; rintro e w2 ⟨rfl, hb2⟩; obtain ⟨hc2, hf2, hz2⟩ := bcell hb2; (try simp at hz2); (try have : w.heap.size < w2.heap.size := by omega); (try have : w.heap.size + 1 < w2.heap.size := by omega); (try have : w.heap.size + 1 + 1 < w2.heap.size := by omega); (try have : w.heap.size + 1 + 1 + 1 < w2.heap.size := by omega); (try have : w1.heap.size < w2.heap.size := by omega); (try have : w1.heap.size + 1 < w2.heap.size := by omega); (try have : w1.heap.size + 1 + 1 < w2.heap.size := by omega); (try have : w1.heap.size + 1 + 1 + 1 < w2.heap.size := by omega); (try have : g < w2.heap.size := by omega); (try have : ga < w2.heap.size := by omega); (try have : gb < w2.heap.size := by omega); (try have : gc < w2.heap.size := by omega); have hB : Below w.heap.size w w2 := (by repeat (first | (with_reducible exact Below.refl _ _) | (with_reducible assumption) | (with_reducible refine Below.drew ?_) | (with_reducible refine Below.alloc ?_ ?_ _) | (with_reducible refine Below.setCell ?_ ?_ _) | (with_reducible refine Below.trans ?_ (Below.mono hb ?_)) | (with_reducible refine Below.trans ?_ (Below.mono hb1 ?_)) | (with_reducible refine Below.trans ?_ (Below.mono hb2 ?_)) | (with_reducible refine Below.trans ?_ (Below.mono hb3 ?_)) | (with_reducible refine Below.trans ?_ (Below.mono hb4 ?_)) | (with_reducible refine Below.trans ?_ (Below.mono hb5 ?_)) | (with_reducible refine Below.trans ?_ (Below.mono hb6 ?_)) | (with_reducible refine Below.trans ?_ (Below.mono hb7 ?_)) | (with_reducible refine Below.trans ?_ (Below.mono hb8 ?_)) | (with_reducible refine Below.trans ?_ (Below.mono hb9 ?_)) | (focus (first | omega | (simp; done) | (simp; omega))) | exact hB))))
    go_ret2
    exact ⟨rfl, (by repeat (first | (with_reducible exact Below.refl _ _) | (with_reducible assumption) | (with_reducible refine Below.drew ?_) | (with_reducible refine Below.alloc ?_ ?_ _) | (with_reducible refine Below.setCell ?_ ?_ _) | (with_reducible refine Below.trans ?_ (Below.mono hb ?_)) | (with_reducible refine Below.trans ?_ (Below.mono hb1 ?_)) | (with_reducible refine Below.trans ?_ (Below.mono hb2 ?_)) | (with_reducible refine Below.trans ?_ (Below.mono hb3 ?_)) | (with_reducible refine Below.trans ?_ (Below.mono hb4 ?_)) | (with_reducible refine Below.trans ?_ (Below.mono hb5 ?_)) | (with_reducible refine Below.trans ?_ (Below.mono hb6 ?_)) | (with_reducible refine Below.trans ?_ (Below.mono hb7 ?_)) | (with_reducible refine Below.trans ?_ (Below.mono hb8 ?_)) | (with_reducible refine Below.trans ?_ (Below.mono hb9 ?_)) | (focus (first | omega | (simp; done) | (simp; omega))) | exact hB))⟩
  · have RI := Lib.hid (fun W => vright_no r c A n cp W hM)
    clear h hM
    go_enter Try.func17, Try.ntmps17
    go_wp2_with (first
      | (go_at_call 48; refine (FI.out _ _ (by simp)).mono ?_; rintro e w1 ⟨rfl, rfl⟩)
      | (go_at_call 15; refine (RI.out _).mono ?_; rintro e w2 ⟨rfl, hb2⟩; obtain ⟨hc2, hf2, hz2⟩ := bcell hb2; (try simp at hz2); (try have : w.heap.size < w2.heap.size := by omega); (try have : w.heap.size + 1 < w2.heap.size := by omega); (try have : w.heap.size + 1 + 1 < w2.heap.size := by omega); (try have : w.heap.size + 1 + 1 + 1 < w2.heap.size := by omega); (try have : w1.heap.size < w2.heap.size := by omega); (try have : w1.heap.size + 1 < w2.heap.size := by omega); (try have : w1.heap.size + 1 + 1 < w2.heap.size := by omega); (try have : w1.heap.size + 1 + 1 + 1 < w2.heap.size := by omega); (try have : g < w2.heap.size := by omega); (try have : ga < w2.heap.size := by omega); (try have : gb < w2.heap.size := by omega); (try have : gc < w2.heap.size := by omega); have hB : Below w.heap.size w w2 := (by repeat (first | (with_reducible exact Below.refl _ _) | (with_reducible assumption) | (with_reducible refine Below.drew ?_) | (with_reducible refine Below.alloc ?_ ?_ _) | (with_reducible refine Below.setCell ?_ ?_ _) | (with_reducible refine Below.trans ?_ (Below.mono hb ?_)) | (with_reducible refine Below.trans ?_ (Below.mono hb1 ?_)) | (with_reducible refine Below.trans ?_ (Below.mono hb2 ?_)) | (with_reducible refine Below.trans ?_ (Below.mono hb3 ?_)) | (with_reducible refine Below.trans ?_ (Below.mono hb4 ?_)) | (with_reducible refine Below.trans ?_ (Below.mono hb5 ?_)) | (with_reducible refine Below.trans ?_ (Below.mono hb6 ?_)) | (with_reducible refine Below.trans ?_ (Below.mono hb7 ?_)) | (with_reducible refine Below.trans ?_ (Below.mono hb8 ?_)) | (with_reducible refine Below.trans ?_ (Below.mono hb9 ?_)) | (focus (first | omega | (simp; done) | (simp; omega))) | exact hB))))
    go_ret2
    exact ⟨rfl, (by repeat (first | (with_reducible exact Below.refl _ _) | (with_reducible assumption) | (with_reducible refine Below.drew ?_) | (with_reducible refine Below.alloc ?_ ?_ _) | (with_reducible refine Below.setCell ?_ ?_ _) | (with_reducible refine Below.trans ?_ (Below.mono hb ?_)) | (with_reducible refine Below.trans ?_ (Below.mono hb1 ?_)) | (with_reducible refine Below.trans ?_ (Below.mono hb2 ?_)) | (with_reducible refine Below.trans ?_ (Below.mono hb3 ?_)) | (with_reducible refine Below.trans ?_ (Below.mono hb4 ?_)) | (with_reducible refine Below.trans ?_ (Below.mono hb5 ?_)) | (with_reducible refine Below.trans ?_ (Below.mono hb6 ?_)) | (with_reducible refine Below.trans ?_ (Below.mono hb7 ?_)) | (with_reducible refine Below.trans ?_ (Below.mono hb8 ?_)) | (with_reducible refine Below.trans ?_ (Below.mono hb9 ?_)) | (focus (first | omega | (simp; done) | (simp; omega))) | exact hB))⟩
/-! ### the law's matrix -/
theorem OwnI.cap {w : World} {B n d : Nat} {D : Option Addr} {xs : List Int} (h : OwnI B w (.slice D n d) xs) : n ≤ d := by
  rcases h.2 with ⟨h1, _⟩ | ⟨g, cap, cur, h1, _, _, h4, _⟩
  · simp only [Value.slice.injEq] at h1; omega
  · simp only [Value.slice.injEq] at h1; omega
set_option maxHeartbeats 4000000 in
theorem mat4_any (r c : Int) (A : Option Addr) (n cp : Nat) (az : List Int) (w : World) (hn : n < 1000000) (hA : Rd w none A n az) :
    Calls Try.prog 19 #[.agg #[.int .i64 r, .int .i64 c, .slice A n cp]] w fun e w' => ∃ D d, e = .returned (.agg #[.int .i64 r, .int .i64 c, .slice D n d]) ∧ n ≤ d ∧ OwnI w.heap.size w' (.slice D n d) az ∧ Below w.heap.size w w' := by
  have HA := Lib.hid hA
  clear hA
  go_enter Try.func19, Try.ntmps19
  go_wp2_with fail
  refine at_world fun W0 hW0 => ?_
  have bx : W0.heap[w.heap.size]? = some (.cells #[.int .i64 r, .int .i64 c, .slice A n cp] 24 (0, 0)) := by subst hW0; exact hp_alloc (heap_alloc_new w _) _
  have bo : W0.heap[w.heap.size + 1]? = some (.cells #[.int .i64 0, .int .i64 0, .slice none 0 0] 46 (0, 0)) := by subst hW0; exact newest_at _ _ (by simp)
  have BW : Below w.heap.size w W0 := by subst hW0; exact (by repeat (first | (with_reducible exact Below.refl _ _) | (with_reducible assumption) | (with_reducible refine Below.drew ?_) | (with_reducible refine Below.alloc ?_ ?_ _) | (with_reducible refine Below.setCell ?_ ?_ _) | (with_reducible refine Below.trans ?_ (Below.mono hb ?_)) | (with_reducible refine Below.trans ?_ (Below.mono hb1 ?_)) | (with_reducible refine Below.trans ?_ (Below.mono hb2 ?_)) | (with_reducible refine Below.trans ?_ (Below.mono hb3 ?_)) | (with_reducible refine Below.trans ?_ (Below.mono hb4 ?_)) | (with_reducible refine Below.trans ?_ (Below.mono hb5 ?_)) | (with_reducible refine Below.trans ?_ (Below.mono hb6 ?_)) | (with_reducible refine Below.trans ?_ (Below.mono hb7 ?_)) | (with_reducible refine Below.trans ?_ (Below.mono hb8 ?_)) | (with_reducible refine Below.trans ?_ (Below.mono hb9 ?_)) | (focus (first | omega | (simp; done) | (simp; omega))) | exact hB))
  have lz : w.heap.size + 1 < W0.heap.size := by subst hW0; simp
  clear hW0
  have rA := HA.out.call BW
  have x0 := cell_of_row W0 w.heap.size 0 _ _ _ bx
  have x1 := cell_of_row W0 w.heap.size 1 _ _ _ bx
  have x2 := cell_of_row W0 w.heap.size 2 _ _ _ bx
  have y0 := cell_of_row W0 (w.heap.size + 1) 0 _ _ _ bo
  have y1 := cell_of_row W0 (w.heap.size + 1) 1 _ _ _ bo
  have y2 := cell_of_row W0 (w.heap.size + 1) 2 _ _ _ bo
  have yf : ∀ i, W0.frozen? ⟨w.heap.size + 1, i, none⟩ = false := fun i => by simp [World.frozen?, bo]
  simp only [List.getElem?_toArray, List.getElem?_cons_zero, List.getElem?_cons_succ] at x0 x1 x2 y0 y1 y2
  have lw : w.heap.size < W0.heap.size := by omega
  have HBO := Lib.hid bo
  clear bx bo
  go_region_with (go_at_call 24; refine (plain04_any A n cp az _ hn (rA.call (by repeat (first | (with_reducible exact Below.refl _ _) | (with_reducible assumption) | (with_reducible refine Below.drew ?_) | (with_reducible refine Below.alloc ?_ ?_ _) | (with_reducible refine Below.setCell ?_ ?_ _) | (with_reducible refine Below.trans ?_ (Below.mono hb ?_)) | (with_reducible refine Below.trans ?_ (Below.mono hb1 ?_)) | (with_reducible refine Below.trans ?_ (Below.mono hb2 ?_)) | (with_reducible refine Below.trans ?_ (Below.mono hb3 ?_)) | (with_reducible refine Below.trans ?_ (Below.mono hb4 ?_)) | (with_reducible refine Below.trans ?_ (Below.mono hb5 ?_)) | (with_reducible refine Below.trans ?_ (Below.mono hb6 ?_)) | (with_reducible refine Below.trans ?_ (Below.mono hb7 ?_)) | (with_reducible refine Below.trans ?_ (Below.mono hb8 ?_)) | (with_reducible refine Below.trans ?_ (Below.mono hb9 ?_)) | (focus (first | omega | (simp; done) | (simp; omega))) | exact hB)))).mono ?_; rintro e w1 ⟨V, rfl, hO, hb1⟩; replace hb1 := undrew hb1; obtain ⟨hc1, hf1, hz1⟩ := bcell hb1; have k1 : w.heap.size < w1.heap.size := (by omega); have k2 : w.heap.size + 1 < w1.heap.size := (by omega); obtain ⟨D, d, rfl, _⟩ := hO.lenW HA.out.1)
  all_goals
    go_wp2_with fail
    have bz := hp3_2 (.slice D n d) (hp3_1 (.int .i64 c) (hp3_0 (.int .i64 r) (hp_call HBO.out hb1)))
    have q0 := cell_of_row _ (w.heap.size + 1) 0 _ _ _ bz
    have q1 := cell_of_row _ (w.heap.size + 1) 1 _ _ _ bz
    have q2 := cell_of_row _ (w.heap.size + 1) 2 _ _ _ bz
    simp only [List.getElem?_toArray, List.getElem?_cons_zero, List.getElem?_cons_succ] at q0 q1 q2
    have hcap := hO.cap
    have hO2 := (((OwnI.setBelow hO (p := ⟨w.heap.size + 1, 0, none⟩) lz (.int .i64 r)).setBelow (p := ⟨w.heap.size + 1, 1, none⟩) lz (.int .i64 c)).setBelow (p := ⟨w.heap.size + 1, 2, none⟩) lz (.slice D n d)).base (B := w.heap.size) (by show w.heap.size ≤ W0.heap.size; omega)
    have BZ := (((BW.trans (hb1.mono BW.size)).setCell (show w.heap.size ≤ w.heap.size + 1 by omega) (.int .i64 r) (p := ⟨w.heap.size + 1, 0, none⟩)).setCell (show w.heap.size ≤ w.heap.size + 1 by omega) (.int .i64 c) (p := ⟨w.heap.size + 1, 1, none⟩)).setCell (show w.heap.size ≤ w.heap.size + 1 by omega) (.slice D n d) (p := ⟨w.heap.size + 1, 2, none⟩)
    clear bz hO hb1 hc1 hf1 hz1 x0 x1 x2 y0 y1 y2 yf rA k1 k2 HBO BW
    exact bodyPost_ret (v := .agg #[.int .i64 r, .int .i64 c, .slice D n d]) (by simp [*, results, Try.results19, go_sem]) rfl ⟨D, d, rfl, hcap, hO2, BZ⟩
/-! ### the reference's products -/
theorem rat_any (r i c k n cp : Nat) (A : Option Addr) (az : List Int) (w : World) (hA : Rd w none A n az) (hik : i * c + k < n) (hn : n ≤ 65536) :
    Calls Try.prog 53 #[.agg #[.int .i64 r, .int .i64 c, .slice A n cp], .int .i64 i, .int .i64 k] w fun e w' => e = .returned (.int .i64 (az.getD (i * c + k) 0)) ∧ Below w.heap.size w w' := by
  obtain ⟨b, o, rfl, l, _, hc⟩ := hA.2 (by omega)
  replace hc := hc (i * c + k) hik
  obtain ⟨q, hq⟩ : ∃ q, q = i * c := ⟨_, rfl⟩
  have hq1 : (i : Int) * (c : Int) = (q : Int) := by rw [hq, Int.natCast_mul]
  rw [← hq] at hc hik ⊢
  have i1 : IntKind.i64.wrap ((i : Int) * (c : Int)) = (q : Int) := by rw [hq1]; exact IntWalk.i64_in _ (by omega)
  have i2 : IntKind.i64.wrap ((q : Int) + (k : Int)) = (q : Int) + (k : Int) := IntWalk.i64_in _ (by omega)
  have i3 : (0 : Int) ≤ (q : Int) + (k : Int) := by omega
  have i4 : (q : Int) + (k : Int) < (n : Int) := by omega
  have i5 : ((q : Int) + (k : Int)).toNat = q + k := by omega
  clear hA hq hq1
  generalize az.getD (q + k) 0 = v at *
  go_enter Try.func53, Try.ntmps53
  go_wp2_with fail
  go_ret
  exact ⟨rfl, (by repeat (first | (with_reducible exact Below.refl _ _) | (with_reducible assumption) | (with_reducible refine Below.drew ?_) | (with_reducible refine Below.alloc ?_ ?_ _) | (with_reducible refine Below.setCell ?_ ?_ _) | (with_reducible refine Below.trans ?_ (Below.mono hb ?_)) | (with_reducible refine Below.trans ?_ (Below.mono hb1 ?_)) | (with_reducible refine Below.trans ?_ (Below.mono hb2 ?_)) | (with_reducible refine Below.trans ?_ (Below.mono hb3 ?_)) | (with_reducible refine Below.trans ?_ (Below.mono hb4 ?_)) | (with_reducible refine Below.trans ?_ (Below.mono hb5 ?_)) | (with_reducible refine Below.trans ?_ (Below.mono hb6 ?_)) | (with_reducible refine Below.trans ?_ (Below.mono hb7 ?_)) | (with_reducible refine Below.trans ?_ (Below.mono hb8 ?_)) | (with_reducible refine Below.trans ?_ (Below.mono hb9 ?_)) | (focus (first | omega | (simp; done) | (simp; omega))) | exact hB))⟩
/-- What stands behind k numbers. -/
def VSR (w wr : World) (g : Nat) (c0 : Int) (r c : Nat) (A : Option Addr) (n cp : Nat) (v : Nat → Int) (k : Nat) (o : Value) : Prop :=
  OwnI (w.heap.size + 1) wr o (rowI v k) ∧ w.grownBy wr (some g) ∧ Unr wr g (c0 + cntI v k) ∧ wr.heap[w.heap.size]? = some (.cells #[.int .i64 r, .int .i64 c, .slice A n cp] 46 (0, 0))
theorem VSR.next {w wr w1 w2 w3 : World} {g : Nat} {c0 : Int} {r c : Nat} {A : Option Addr} {n cp : Nat} {v : Nat → Int} {k : Nat} {o o' : Value} (h : VSR w wr g c0 r c A n cp v k o) (h1 : Below wr.heap.size wr w1) (h2 : w1.grownBy w2 (some g)) (hu : g < w.heap.size)
    (hV : Unr w2 g (c0 + cntI v k + ov (overI (v k)))) (hown : w3.ownsRow (w.heap.size + 1) 2 1 o' (k + 1) ((rowI v k).map iv ++ [.int .i64 (clampI (v k))])) (h3 : Below (w.heap.size + 1) w2 w3) :
    VSR w w3 g c0 r c A n cp v (k + 1) o' := by
  obtain ⟨_, hg, _, b⟩ := h
  have hz := lt_of_block b
  have hz1 := h1.size
  have hz2 := h2.size
  refine ⟨own_nextI hown, ?_, ?_, ?_⟩
  · exact gr_low (gr_trans (gr_call hg h1) h2) (h3.mono (by omega))
  · rw [cntI, ← Int.add_assoc]
    exact hV.low h3 (by omega)
  · exact (h3.block _ (by omega)).trans (hp_grown (hp_call b h1) h2 (fun e => by injection e with e; omega))
set_option maxHeartbeats 4000000 in
theorem rmatvec_any (g : Nat) (c0 : Int) (r c b off : Nat) (B : Option Addr) (n cp cq : Nat) (az xs : List Int) (w : World) (hM : MatOk r c n) (hcp : n ≤ cp) (hA : Rd w (some g) (some ⟨b, off, none⟩) n az) (hX : Rd w (some g) B c xs) (ha : All64 az) (hx : All64 xs) (hU : Unr w g c0) (hc0 : 0 ≤ c0) (hc : c0 < 900000000) :
    Calls Try.prog 23 #[.pointer (some ⟨g, 0, none⟩), .agg #[.int .i64 r, .int .i64 c, .slice (some ⟨b, off, none⟩) n cp], .slice B c cq] w (GotR w g c0 (rowI (mvV xs az c) r) (cntI (mvV xs az c) r)) := by
  obtain ⟨m1, m2, m3, m4, m5, m6⟩ := hM
  have hrc : (n : Int) = ((r * c : Nat) : Int) := by rw [m6, Int.natCast_mul]
  have hn : n ≤ 65536 := by omega
  have hnz : 0 < n := by
    have := Nat.mul_le_mul (show 1 ≤ r by omega) (show 1 ≤ c by omega)
    omega
  have HRC := Lib.hid hrc
  have HA := Lib.hid hA
  have HX := Lib.hid hX
  have HU := Lib.hid hU
  have hul := hU.lt
  clear hA hX hU m5 m6 hrc
  go_enter Try.func23, Try.ntmps23
  go_wp2_with fail
  refine at_world fun W1 hW1 => ?_
  have HI : VSR w W1 g c0 r c (some ⟨b, off, none⟩) n cp (mvV xs az c) 0 (.slice none 0 0) := by
    subst hW1
    exact ⟨World.ownsRow_nil _ _ _ _, gr_alloc (World.grownBy.refl _ _) _, by simpa [cntI] using HU.out.call ((Below.refl _ _).alloc (Nat.le_refl _) _), heap_alloc_new w _⟩
  clear hW1
  go_loopw [7, 8] (fun o i wr => ∃ k : Nat, k ≤ r ∧ i = .int .i64 k ∧ VSR w wr g c0 r c (some ⟨b, off, none⟩) n cp (mvV xs az c) k o) (fun _ i _ => r - (intOf i).toNat)
  case atStart => exact ⟨0, Nat.zero_le _, rfl, HI⟩
  case round =>
    clear HI
    obtain ⟨k, hk, rfl, hS⟩ := hrel
    have hG := hS.2.1
    have hsz := hG.size
    have lP := lt_of_block hS.2.2.2
    have p0 := cell_of_row wr w.heap.size 0 _ _ _ hS.2.2.2
    have p1 := cell_of_row wr w.heap.size 1 _ _ _ hS.2.2.2
    have p2 := cell_of_row wr w.heap.size 2 _ _ _ hS.2.2.2
    simp only [List.getElem?_toArray, List.getElem?_cons_zero, List.getElem?_cons_succ] at p0 p1 p2
    by_cases hlt : k < r
    · have hcb := cntI_bound (mvV xs az c) k
      have hkc : k * c + c ≤ n := by
        have h1 : (k + 1) * c ≤ r * c := Nat.mul_le_mul_right c (by omega)
        have h2 := HRC.out
        rw [Nat.succ_mul] at h1
        omega
      have DO := Lib.hid (fun cq' W h1 h2 h3 => rdot_any g (c0 + cntI (mvV xs az c) k) (some ⟨b, off + k * c, none⟩) B c cq' cq ((az.drop (k * c)).take c) xs W (by omega) h1 h2 (part_all4 ha _ _) hx h3 (by omega) (by omega))
      rw [part_dot4] at DO
      have HP := Lib.hid (rd_part4 ((HA.out.grown hG).anyu) (k * c) c hkc hnz)
      obtain ⟨q, hq⟩ : ∃ q, q = k * c := ⟨_, rfl⟩
      have hq1 : (k : Int) * (c : Int) = (q : Int) := by rw [hq, Int.natCast_mul]
      rw [← hq] at DO HP hkc
      have i1 : IntKind.i64.wrap ((k : Int) * (c : Int)) = (q : Int) := by rw [hq1]; exact IntWalk.i64_in _ (by omega)
      have i2 : IntKind.i64.wrap ((q : Int) + (c : Int)) = (q : Int) + (c : Int) := IntWalk.i64_in _ (by omega)
      have i3 : (q : Int) + (c : Int) ≤ (cp : Int) := by omega
      have HS := Lib.hid hS
      have HG := Lib.hid hG
      clear hS hG hq
      go_wp2_with (first
        | (go_at_call 41; refine (DO.out _ _ HP.out ((HX.out.grown HG.out).anyu) HS.out.2.2.1).mono ?_; rintro e y2 ⟨rfl, hg2, hV2⟩; have zy2 := hg2.size)
        | (at_builtin; refine app_i64 (B := w.heap.size + 1) (by omega) (own_rowI (OwnI.grown HS.out.1 hg2 (by rintro _ ⟨⟩; omega))) (by omega) rfl rfl rfl _ rfl rfl ?_; intro v' y3 hown3 hb3))
      go_roundw
      case rel => exact ⟨k + 1, by omega, by simp, HS.out.next (Below.refl _ _) hg2 hul hV2 hown3 hb3⟩
      case measure => simp [intOf]; omega
    · obtain rfl : k = r := by omega
      go_wp2_with fail
      go_ret
      exact ⟨_, rfl, hS.1.base (by omega), hG, hS.2.2.1⟩
end Go.Proofs.Ytikjomekhnkgcaa
