import Derived.Test.YtcdnkecgnfdfnaaH3
import Derived.Test.YtcdnkecgnfdfnaaO3
import Derived.Test.YtcdnkecgnfdfnaaRowO
/- The law OuterDeltas, walked. -/
namespace Go.Proofs.Ytcdnkecgnfdfnaa
open Go.RowKit
attribute [local go_sem ↓] Go.wp_at_zero Go.wp_at_succ

theorem delta_any (A B : Option Addr) (n cp cq : Nat) (xs ys : List Int) (U : Value) (u : Option Nat) (c : Int) (w : World) (hxs : All64 xs) (hys : All64 ys) (hn : n ≤ 65536)
    (hx : Rd w u A n xs) (hy : Rd w u B n ys) (hU : Unt w U u c) (hc0 : 0 ≤ c) (hc : c < 900000000) :
    Calls Try.prog 17 #[U, .slice A n cp, .slice B n cq] w (GotF2 w U u c (rowI (subV xs ys) n) (cntI (subV xs ys) n)) := by
  have SU := Lib.hid (vsub_any A B n cp cq xs ys U u c w hxs hys hn hx hy hU hc0 hc)
  go_enter Try.func17, Try.ntmps17
  go_wp2_with (go_at_call 28; refine SU.out.mono ?_; rintro e w1 ⟨V, rfl, hO, hG, hV⟩)
  go_ret2
  exact ⟨V, rfl, hO, hG, hV⟩
theorem delta_shape (A B : Option Addr) (n m cp cq : Nat) (U : Value) (w : World) (hn : n ≤ 65536) (hm : m ≤ 65536) (h : n ≠ m) :
    Calls Try.prog 17 #[U, .slice A n cp, .slice B m cq] w fun e w' => e = .returned (.tuple #[.slice none 0 0, .int .i64 40]) ∧ Below w.heap.size w w' := by
  go_enter Try.func17, Try.ntmps17
  go_wp2_with (go_at_call 28; refine (vsub_shape A B n m cp cq U w hn hm h).mono ?_; rintro e w1 ⟨rfl, hb1⟩; obtain ⟨hc1, hf1, hz1⟩ := bcell hb1; (try simp at hz1); (try have : w.heap.size < w1.heap.size := by omega); (try have : w.heap.size + 1 < w1.heap.size := by omega); (try have : w.heap.size + 1 + 1 < w1.heap.size := by omega); (try have : w.heap.size + 1 + 1 + 1 < w1.heap.size := by omega); (try have : g < w1.heap.size := by omega); (try have : ga < w1.heap.size := by omega); (try have : gb < w1.heap.size := by omega); (try have : gc < w1.heap.size := by omega); have hB : Below w.heap.size w w1 := (by repeat (first | (with_reducible exact Below.refl _ _) | (with_reducible assumption) | (with_reducible refine Below.drew ?_) | (with_reducible refine Below.alloc ?_ ?_ _) | (with_reducible refine Below.setCell ?_ ?_ _) | (with_reducible refine Below.trans ?_ (Below.mono hb ?_)) | (with_reducible refine Below.trans ?_ (Below.mono hb1 ?_)) | (with_reducible refine Below.trans ?_ (Below.mono hb2 ?_)) | (with_reducible refine Below.trans ?_ (Below.mono hb3 ?_)) | (with_reducible refine Below.trans ?_ (Below.mono hb4 ?_)) | (with_reducible refine Below.trans ?_ (Below.mono hb5 ?_)) | (with_reducible refine Below.trans ?_ (Below.mono hb6 ?_)) | (with_reducible refine Below.trans ?_ (Below.mono hb7 ?_)) | (with_reducible refine Below.trans ?_ (Below.mono hb8 ?_)) | (with_reducible refine Below.trans ?_ (Below.mono hb9 ?_)) | (focus (first | omega | (simp; done) | (simp; omega))) | exact hB)))
  go_ret2
  exact ⟨rfl, hB⟩
theorem at_calls {P : Program} {f : FuncId} {args : Array Value} {w : World} {Q : Ending → World → Prop} (h : ∀ W0, W0 = w → Calls P f args W0 Q) : Calls P f args w Q := h w rfl
theorem Rd.noone2 {w : World} {u : Option Nat} {A : Option Addr} {n : Nat} {xs : List Int} (h : Rd w u A n xs) : Rd w none A n xs :=
  ⟨h.1, fun hn => by
    obtain ⟨b, off, e, hb, _, hc⟩ := h.2 hn
    exact ⟨b, off, e, hb, by simp, hc⟩⟩
theorem same_self (xs : List Int) : sameB xs xs = true := by unfold sameB; simp
theorem OwnI.len {w : World} {u : Option Nat} {B : Nat} {v : Value} {xs : List Int} {n : Nat} (h : OwnI B w v xs) (hl : xs.length = n) (hB : ∀ g, u = some g → g < B) : ∃ A c, v = .slice A n c ∧ Rd w u A n xs := by
  subst hl; exact h.rd hB
theorem OwnI.lenAt {w : World} {u : Option Nat} {B : Nat} {A : Option Addr} {xs : List Int} {n c : Nat} (h : OwnI B w (.slice A n c) xs) (hl : xs.length = n) (hB : ∀ g, u = some g → g < B) : Rd w u A n xs := by
  subst hl; exact h.rdAt hB
theorem OwnF.len {w : World} {u : Option Nat} {B : Nat} {v : Value} {xs : List Int} {n : Nat} (h : OwnF B w v xs) (hl : xs.length = n) (hB : ∀ g, u = some g → g < B) : ∃ A c, v = .slice A n c ∧ Rd w u A n xs := by
  subst hl; exact h.rd hB
set_option maxRecDepth 100000 in
theorem odel_early (A C : Option Addr) (n cp m cr : Nat) (w : World) (h : 200 < n ∨ 200 < m) :
    Calls Try.prog 6 #[.slice A n cp, .slice C m cr] w fun e w' => e = .returned (.bool true) ∧ Below w.heap.size w w' := by
  have AW := Lib.hid (fun W => awake10_any W)
  by_cases h1 : 200 < n
  · clear h
    go_enter Try.func6, Try.ntmps6
    go_wp2_with (go_at_call 8; refine (AW.out _).mono ?_; rintro e w1 ⟨rfl, hb1⟩; obtain ⟨hc1, hf1, hz1⟩ := bcell hb1; (try simp at hz1); (try have : w.heap.size < w1.heap.size := by omega); (try have : w.heap.size + 1 < w1.heap.size := by omega); (try have : w.heap.size + 1 + 1 < w1.heap.size := by omega); (try have : w.heap.size + 1 + 1 + 1 < w1.heap.size := by omega); (try have : g < w1.heap.size := by omega); (try have : ga < w1.heap.size := by omega); (try have : gb < w1.heap.size := by omega); (try have : gc < w1.heap.size := by omega); have hB : Below w.heap.size w w1 := (by repeat (first | (with_reducible exact Below.refl _ _) | (with_reducible assumption) | (with_reducible refine Below.drew ?_) | (with_reducible refine Below.alloc ?_ ?_ _) | (with_reducible refine Below.setCell ?_ ?_ _) | (with_reducible refine Below.trans ?_ (Below.mono hb ?_)) | (with_reducible refine Below.trans ?_ (Below.mono hb1 ?_)) | (with_reducible refine Below.trans ?_ (Below.mono hb2 ?_)) | (with_reducible refine Below.trans ?_ (Below.mono hb3 ?_)) | (with_reducible refine Below.trans ?_ (Below.mono hb4 ?_)) | (with_reducible refine Below.trans ?_ (Below.mono hb5 ?_)) | (with_reducible refine Below.trans ?_ (Below.mono hb6 ?_)) | (with_reducible refine Below.trans ?_ (Below.mono hb7 ?_)) | (with_reducible refine Below.trans ?_ (Below.mono hb8 ?_)) | (with_reducible refine Below.trans ?_ (Below.mono hb9 ?_)) | (focus (first | omega | (simp; done) | (simp; omega))) | exact hB)))
    go_ret
    exact ⟨rfl, (by repeat (first | (with_reducible exact Below.refl _ _) | (with_reducible assumption) | (with_reducible refine Below.drew ?_) | (with_reducible refine Below.alloc ?_ ?_ _) | (with_reducible refine Below.setCell ?_ ?_ _) | (with_reducible refine Below.trans ?_ (Below.mono hb ?_)) | (with_reducible refine Below.trans ?_ (Below.mono hb1 ?_)) | (with_reducible refine Below.trans ?_ (Below.mono hb2 ?_)) | (with_reducible refine Below.trans ?_ (Below.mono hb3 ?_)) | (with_reducible refine Below.trans ?_ (Below.mono hb4 ?_)) | (with_reducible refine Below.trans ?_ (Below.mono hb5 ?_)) | (with_reducible refine Below.trans ?_ (Below.mono hb6 ?_)) | (with_reducible refine Below.trans ?_ (Below.mono hb7 ?_)) | (with_reducible refine Below.trans ?_ (Below.mono hb8 ?_)) | (with_reducible refine Below.trans ?_ (Below.mono hb9 ?_)) | (focus (first | omega | (simp; done) | (simp; omega))) | exact hB))⟩
  · have h2 : 200 < m := by omega
    clear h
    go_enter Try.func6, Try.ntmps6
    go_wp2_with (go_at_call 8; refine (AW.out _).mono ?_; rintro e w1 ⟨rfl, hb1⟩; obtain ⟨hc1, hf1, hz1⟩ := bcell hb1; (try simp at hz1); (try have : w.heap.size < w1.heap.size := by omega); (try have : w.heap.size + 1 < w1.heap.size := by omega); (try have : w.heap.size + 1 + 1 < w1.heap.size := by omega); (try have : w.heap.size + 1 + 1 + 1 < w1.heap.size := by omega); (try have : g < w1.heap.size := by omega); (try have : ga < w1.heap.size := by omega); (try have : gb < w1.heap.size := by omega); (try have : gc < w1.heap.size := by omega); have hB : Below w.heap.size w w1 := (by repeat (first | (with_reducible exact Below.refl _ _) | (with_reducible assumption) | (with_reducible refine Below.drew ?_) | (with_reducible refine Below.alloc ?_ ?_ _) | (with_reducible refine Below.setCell ?_ ?_ _) | (with_reducible refine Below.trans ?_ (Below.mono hb ?_)) | (with_reducible refine Below.trans ?_ (Below.mono hb1 ?_)) | (with_reducible refine Below.trans ?_ (Below.mono hb2 ?_)) | (with_reducible refine Below.trans ?_ (Below.mono hb3 ?_)) | (with_reducible refine Below.trans ?_ (Below.mono hb4 ?_)) | (with_reducible refine Below.trans ?_ (Below.mono hb5 ?_)) | (with_reducible refine Below.trans ?_ (Below.mono hb6 ?_)) | (with_reducible refine Below.trans ?_ (Below.mono hb7 ?_)) | (with_reducible refine Below.trans ?_ (Below.mono hb8 ?_)) | (with_reducible refine Below.trans ?_ (Below.mono hb9 ?_)) | (focus (first | omega | (simp; done) | (simp; omega))) | exact hB)))
    go_ret
    exact ⟨rfl, (by repeat (first | (with_reducible exact Below.refl _ _) | (with_reducible assumption) | (with_reducible refine Below.drew ?_) | (with_reducible refine Below.alloc ?_ ?_ _) | (with_reducible refine Below.setCell ?_ ?_ _) | (with_reducible refine Below.trans ?_ (Below.mono hb ?_)) | (with_reducible refine Below.trans ?_ (Below.mono hb1 ?_)) | (with_reducible refine Below.trans ?_ (Below.mono hb2 ?_)) | (with_reducible refine Below.trans ?_ (Below.mono hb3 ?_)) | (with_reducible refine Below.trans ?_ (Below.mono hb4 ?_)) | (with_reducible refine Below.trans ?_ (Below.mono hb5 ?_)) | (with_reducible refine Below.trans ?_ (Below.mono hb6 ?_)) | (with_reducible refine Below.trans ?_ (Below.mono hb7 ?_)) | (with_reducible refine Below.trans ?_ (Below.mono hb8 ?_)) | (with_reducible refine Below.trans ?_ (Below.mono hb9 ?_)) | (focus (first | omega | (simp; done) | (simp; omega))) | exact hB))⟩
set_option maxHeartbeats 2000000 in
set_option maxRecDepth 100000 in
theorem odel_shape (A C : Option Addr) (n cp m cr : Nat) (w : World) (hn : n ≤ 200) (hm : m ≤ 200) (h : n ≠ m) :
    Calls Try.prog 6 #[.slice A n cp, .slice C m cr] w fun e w' => e = .returned (.bool true) ∧ Below w.heap.size w w' := by
  have AW := Lib.hid (fun W => awake10_any W)
  have DS := Lib.hid (fun U W => delta_shape A C n m cp cr U W (by omega) (by omega) h)
  have h6 : ¬ (n : Int) = m := by omega
  clear h
  go_enter Try.func6, Try.ntmps6
  go_wp2_with (first
    | (go_at_call 8; refine (AW.out _).mono ?_; rintro e w1 ⟨rfl, hb1⟩; obtain ⟨hc1, hf1, hz1⟩ := bcell hb1; (try simp at hz1); (try have : w.heap.size < w1.heap.size := by omega); (try have : w.heap.size + 1 < w1.heap.size := by omega); (try have : w.heap.size + 1 + 1 < w1.heap.size := by omega); (try have : w.heap.size + 1 + 1 + 1 < w1.heap.size := by omega); (try have : g < w1.heap.size := by omega); (try have : ga < w1.heap.size := by omega); (try have : gb < w1.heap.size := by omega); (try have : gc < w1.heap.size := by omega); have hB : Below w.heap.size w w1 := (by repeat (first | (with_reducible exact Below.refl _ _) | (with_reducible assumption) | (with_reducible refine Below.drew ?_) | (with_reducible refine Below.alloc ?_ ?_ _) | (with_reducible refine Below.setCell ?_ ?_ _) | (with_reducible refine Below.trans ?_ (Below.mono hb ?_)) | (with_reducible refine Below.trans ?_ (Below.mono hb1 ?_)) | (with_reducible refine Below.trans ?_ (Below.mono hb2 ?_)) | (with_reducible refine Below.trans ?_ (Below.mono hb3 ?_)) | (with_reducible refine Below.trans ?_ (Below.mono hb4 ?_)) | (with_reducible refine Below.trans ?_ (Below.mono hb5 ?_)) | (with_reducible refine Below.trans ?_ (Below.mono hb6 ?_)) | (with_reducible refine Below.trans ?_ (Below.mono hb7 ?_)) | (with_reducible refine Below.trans ?_ (Below.mono hb8 ?_)) | (with_reducible refine Below.trans ?_ (Below.mono hb9 ?_)) | (focus (first | omega | (simp; done) | (simp; omega))) | exact hB)))
    | (go_at_call 17; refine (DS.out _ _).mono ?_; rintro e w2 ⟨rfl, hb2⟩; obtain ⟨hc2, hf2, hz2⟩ := bcell hb2; (try simp at hz2); (try have : w.heap.size < w2.heap.size := by omega); (try have : w.heap.size + 1 < w2.heap.size := by omega); (try have : w.heap.size + 1 + 1 < w2.heap.size := by omega); (try have : w.heap.size + 1 + 1 + 1 < w2.heap.size := by omega); (try have : w1.heap.size < w2.heap.size := by omega); (try have : w1.heap.size + 1 < w2.heap.size := by omega); (try have : w1.heap.size + 1 + 1 < w2.heap.size := by omega); (try have : w1.heap.size + 1 + 1 + 1 < w2.heap.size := by omega); (try have : g < w2.heap.size := by omega); (try have : ga < w2.heap.size := by omega); (try have : gb < w2.heap.size := by omega); (try have : gc < w2.heap.size := by omega); have hB : Below w.heap.size w w2 := (by repeat (first | (with_reducible exact Below.refl _ _) | (with_reducible assumption) | (with_reducible refine Below.drew ?_) | (with_reducible refine Below.alloc ?_ ?_ _) | (with_reducible refine Below.setCell ?_ ?_ _) | (with_reducible refine Below.trans ?_ (Below.mono hb ?_)) | (with_reducible refine Below.trans ?_ (Below.mono hb1 ?_)) | (with_reducible refine Below.trans ?_ (Below.mono hb2 ?_)) | (with_reducible refine Below.trans ?_ (Below.mono hb3 ?_)) | (with_reducible refine Below.trans ?_ (Below.mono hb4 ?_)) | (with_reducible refine Below.trans ?_ (Below.mono hb5 ?_)) | (with_reducible refine Below.trans ?_ (Below.mono hb6 ?_)) | (with_reducible refine Below.trans ?_ (Below.mono hb7 ?_)) | (with_reducible refine Below.trans ?_ (Below.mono hb8 ?_)) | (with_reducible refine Below.trans ?_ (Below.mono hb9 ?_)) | (focus (first | omega | (simp; done) | (simp; omega))) | exact hB)); have un : Unt w2 (.pointer (some ⟨w1.heap.size, 0, none⟩)) (some w1.heap.size) 0 := Unt.at_ ((hb2.block _ (by simp; omega)).trans ((Below.heap_alloc _ _ _ (by simp)).trans (heap_alloc_new w1 _))))
    | (go_at_call 13; refine (ucount_any _ _ 0 _ un).mono ?_; rintro e w3 ⟨rfl, rfl⟩))
  go_ret
  exact ⟨rfl, hB⟩
set_option maxHeartbeats 2000000 in
set_option maxRecDepth 100000 in
theorem odel_main (A C : Option Addr) (n cp cr : Nat) (xs ys : List Int) (w : World) (hn : n ≤ 200) (hA : Rd w none A n xs) (hC : Rd w none C n ys) (hp : All64 xs) (hg : All64 ys) :
    Calls Try.prog 6 #[.slice A n cp, .slice C n cr] w fun e w' => e = .returned (.bool true) ∧ Below w.heap.size w w' := by
  have hn0 : ∀ (B g : Nat), none = some g → g < B := by intro B g e; cases e
  have AW := Lib.hid (fun W => awake10_any W)
  have hlx := Lib.hid hA.1
  have hly := Lib.hid hC.1
  have hlr := Lib.hid (rowI_length (subV xs ys) n)
  have cb := cntI_bound (subV xs ys) n
  go_enter Try.func6, Try.ntmps6
  go_wp2_with (go_at_call 8; refine (AW.out _).mono ?_; rintro e w1 ⟨rfl, hb1⟩; obtain ⟨hc1, hf1, hz1⟩ := bcell hb1; (try simp at hz1); (try have : w.heap.size < w1.heap.size := by omega); (try have : w.heap.size + 1 < w1.heap.size := by omega); (try have : w.heap.size + 1 + 1 < w1.heap.size := by omega); (try have : w.heap.size + 1 + 1 + 1 < w1.heap.size := by omega); (try have : g < w1.heap.size := by omega); (try have : ga < w1.heap.size := by omega); (try have : gb < w1.heap.size := by omega); (try have : gc < w1.heap.size := by omega); have hB : Below w.heap.size w w1 := (by repeat (first | (with_reducible exact Below.refl _ _) | (with_reducible assumption) | (with_reducible refine Below.drew ?_) | (with_reducible refine Below.alloc ?_ ?_ _) | (with_reducible refine Below.setCell ?_ ?_ _) | (with_reducible refine Below.trans ?_ (Below.mono hb ?_)) | (with_reducible refine Below.trans ?_ (Below.mono hb1 ?_)) | (with_reducible refine Below.trans ?_ (Below.mono hb2 ?_)) | (with_reducible refine Below.trans ?_ (Below.mono hb3 ?_)) | (with_reducible refine Below.trans ?_ (Below.mono hb4 ?_)) | (with_reducible refine Below.trans ?_ (Below.mono hb5 ?_)) | (with_reducible refine Below.trans ?_ (Below.mono hb6 ?_)) | (with_reducible refine Below.trans ?_ (Below.mono hb7 ?_)) | (with_reducible refine Below.trans ?_ (Below.mono hb8 ?_)) | (with_reducible refine Below.trans ?_ (Below.mono hb9 ?_)) | (focus (first | omega | (simp; done) | (simp; omega))) | exact hB)))
  refine at_calls fun Wb hWb => ?_
  have un : Unt Wb (.pointer (some ⟨w1.heap.size, 0, none⟩)) (some w1.heap.size) 0 := by subst hWb; exact Unt.at_ ((Below.heap_alloc _ _ _ (by simp)).trans (heap_alloc_new w1 _))
  have vn : Unr Wb (w1.heap.size + 1) 0 := by subst hWb; exact newest_at _ _ (by simp)
  have BWb : Below w.heap.size w Wb := by subst hWb; exact (by repeat (first | (with_reducible exact Below.refl _ _) | (with_reducible assumption) | (with_reducible refine Below.drew ?_) | (with_reducible refine Below.alloc ?_ ?_ _) | (with_reducible refine Below.setCell ?_ ?_ _) | (with_reducible refine Below.trans ?_ (Below.mono hb ?_)) | (with_reducible refine Below.trans ?_ (Below.mono hb1 ?_)) | (with_reducible refine Below.trans ?_ (Below.mono hb2 ?_)) | (with_reducible refine Below.trans ?_ (Below.mono hb3 ?_)) | (with_reducible refine Below.trans ?_ (Below.mono hb4 ?_)) | (with_reducible refine Below.trans ?_ (Below.mono hb5 ?_)) | (with_reducible refine Below.trans ?_ (Below.mono hb6 ?_)) | (with_reducible refine Below.trans ?_ (Below.mono hb7 ?_)) | (with_reducible refine Below.trans ?_ (Below.mono hb8 ?_)) | (with_reducible refine Below.trans ?_ (Below.mono hb9 ?_)) | (focus (first | omega | (simp; done) | (simp; omega))) | exact hB))
  have hGw : w.heap.size ≤ w1.heap.size := hz1
  clear hWb hc1 hf1 hb1 hB hz1 AW
  generalize w1.heap.size = G at *
  have hv1 : ∀ v : Nat, w.heap.size ≤ v → ∀ g, some v = some g → w.heap.size ≤ g := by rintro v hv g ⟨⟩; exact hv
  have aG := (hA.unit (hv1 G hGw)).call BWb
  have cG := (hC.unit (hv1 G hGw)).call BWb
  refine (delta_any A C n cp cr xs ys _ (some G) 0 Wb hp hg (by omega) aG cG un (by omega) (by omega)).mono ?_
  rintro e w2 ⟨VD, rfl, hD, hG, hUn⟩
  rw [Int.zero_add] at hUn
  have z2 := hG.size
  have hHb := vn.lt
  have vn2 := vn.grown hG (by simp)
  have zb := BWb.size
  obtain ⟨AD, cD, rfl, rD⟩ := hD.len (u := none) hlr.out (hn0 _)
  have aN := (aG.grown hG).noone2
  have cN := (cG.grown hG).noone2
  have BW2 : Below w.heap.size w w2 := BWb.trans (gr_new hG (B := w.heap.size) zb hGw)
  clear hD aG cG un vn BWb hG hA hC
  have tok1 : True := trivial
  have tok2 : True := trivial
  have B0 : Below w2.heap.size w2 w2.drew := (Below.refl _ _).drew
  go_wp2_with fail
  go_region_with (first
    | (go_at_call 15; have _t := tok1; refine (plain10_any AD n cD _ _ (by omega) (rD.call B0)).mono ?_; rintro e x1 ⟨V1, rfl, hO1, hb1⟩; clear tok1 _t; replace hb1 := undrew hb1; replace hO1 := hO1.base (B := w2.heap.size) (Nat.le_refl _); obtain ⟨A1, c1, rfl, hR1⟩ := hO1.len (u := none) hlr.out (hn0 _))
    | (go_at_call 15; have _t := tok2; refine (plain10_any A n cp xs _ (by omega) (aN.call hb1)).mono ?_; rintro e x2 ⟨V2, rfl, hO2, hb2⟩; clear tok2 _t; obtain ⟨A2, c2, rfl, _⟩ := hO2.len (u := none) hlx.out (hn0 _))
    | (go_at_call 15; refine (plain10_any C n cr ys _ (by omega) ((cN.call hb1).call hb2)).mono ?_; rintro e x3 ⟨V3, rfl, hO3, hb3⟩; obtain ⟨A3, c3, rfl, _⟩ := hO3.len (u := none) hly.out (hn0 _); have g1 := hb1.size; have g2 := hb2.size; have g3 := hb3.size)
    | (go_at_call 19; refine (rdiff_any A2 A3 n c2 c3 (G + 1) xs ys 0 _ (by omega) hp hg ((hO2.low hb3).lenAt hlx.out (by rintro _ ⟨⟩; omega)) (hO3.lenAt hly.out (by rintro _ ⟨⟩; omega)) (((vn2.call hb1).call hb2).call hb3) (by omega) (by omega)).mono ?_; rintro e x4 ⟨V4, rfl, hO4, hG4, hU4⟩; rw [Int.zero_add] at hU4; obtain ⟨A4, c4, rfl, hR4⟩ := hO4.len (u := none) hlr.out (hn0 _); have hm4 := cell_of_one hU4)
    | (go_at_call 18; refine (same_any A1 A4 n c1 c4 (rowI (subV xs ys) n) (rowI (subV xs ys) n) _ (by omega) ((((hO1.low hb2).low hb3).grown hG4 (by rintro _ ⟨⟩; omega)).lenAt hlr.out (hn0 _)) hR4).mono ?_; rw [same_self]; rintro e x5 ⟨rfl, hb5⟩; have hm5 := (hb5.cell (p := ⟨G + 1, 0, none⟩) hU4.lt).trans hm4)
    | (go_at_call 13; refine (ucount_any _ (some G) (cntI (subV xs ys) n) _ (((((hUn.call hb1).call hb2).call hb3).grown hG4 (by rintro g ⟨⟩; simp)).call hb5)).mono ?_; rintro e x6 ⟨rfl, rfl⟩))
  all_goals
    have g4 := hG4.size
    have BE : Below w.heap.size w x5 := BW2.trans ((hb1.mono (by omega)).trans ((hb2.mono (by omega)).trans ((hb3.mono (by omega)).trans ((gr_new hG4 (B := w.heap.size) (by omega) (by omega)).trans (hb5.mono (by omega))))))
    clear hb1 hb2 hb3 hb5 hO1 hO2 hO3 hO4 hG4 hU4 hR1 hR4 hUn vn2 aN cN rD hm4 hm5 B0
    go_wp2
    go_ret
    exact ⟨rfl, BE⟩
end Go.Proofs.Ytcdnkecgnfdfnaa
