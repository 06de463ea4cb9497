/- Part of the proof: what the claim leans on. -/
import Derived.Test.YtiocklgakklkpaaNAE
set_option linter.unusedSimpArgs false
set_option linter.unusedVariables false
namespace Go.Proofs.Ytiocklgakklkpaa
open Go.RowKit
/-- A blank with four panels and two numbers of flaps at each end, all of them lengths. -/
def Fine (b : Bl) : Prop :=
  ∃ p0 p1 p2 p3 t0 t1 u0 u1, b.panels = [p0, p1, p2, p3] ∧ b.top = [t0, t1] ∧ b.bottom = [u0, u1] ∧ (0 ≤ p0 ∧ p0 ≤ 3000) ∧ (0 ≤ p1 ∧ p1 ≤ 3000) ∧ (0 ≤ p2 ∧ p2 ≤ 3000) ∧ (0 ≤ p3 ∧ p3 ≤ 3000) ∧
    (0 ≤ t0 ∧ t0 ≤ 3000) ∧ (0 ≤ t1 ∧ t1 ≤ 3000) ∧ (0 ≤ u0 ∧ u0 ≤ 3000) ∧ (0 ≤ u1 ∧ u1 ≤ 3000) ∧ (0 ≤ b.height ∧ b.height ≤ 3000)
def offB (b : Bl) (long flaps : Int) : Bl :=
  ⟨b.tab, b.panels.map (clamp 1 long), clamp 1 long b.height, if b.isOpen then b.top else b.top.map (clamp 0 flaps), b.bottom.map (clamp 0 flaps), b.slot, b.isOpen⟩
/-- A new blank, read. -/
def NewBlk (b : Bl) (w : World) (e : Ending) (w' : World) : Prop := ∃ v, e = .returned v ∧ Blk w' v b ∧ Below w.heap.size w w'
theorem fun_off (least by_ : Int) (a b : Addr) (l : List Int) (w : World) (ha : w.cell? a = some (.int .i64 least)) (hb : w.cell? b = some (.int .i64 by_)) (la : a.block < w.heap.size) (lb : b.block < w.heap.size)
    (h3 : -100 ≤ by_) (h4 : by_ ≤ 100) (hl : ∀ x ∈ l, 0 ≤ x ∧ x ≤ 3000) :
    Fun1 56 #[.pointer (some a), .pointer (some b)] (clamp least by_) l w :=
  fun x hx w1 h1 => off11_any x least by_ a b w1 ((h1.cell la).trans ha) ((h1.cell lb).trans hb) (by have := hl x hx; omega) (by have := hl x hx; omega) h3 h4
set_option maxRecDepth 100000 in
set_option maxHeartbeats 8000000 in
theorem off_any (v : Value) (b : Bl) (long flaps : Int) (w : World) (hB : Blk w v b) (hF : Fine b) (g1 : -100 ≤ long) (g2 : long ≤ 100) (g3 : -100 ≤ flaps) (g4 : flaps ≤ 100) :
    Calls Try.prog 33 #[v, .int .i64 long, .int .i64 flaps] w (NewBlk (offB b long flaps) w) := by
  obtain ⟨a1, n1, c1, a2, n2, c2, a3, n3, c3, rfl, h1, h2, h3⟩ := hB
  obtain ⟨tab, panels, h, top, bottom, slot, op⟩ := b
  obtain ⟨p0, p1, p2, p3, t0, t1, u0, u1, e1, e2, e3, r0, r1, r2, r3, s0, s1, q0, q1, rh⟩ := hF
  simp only at e1 e2 e3 h1 h2 h3 rh
  subst e1 e2 e3
  obtain rfl : n1 = 4 := h1.1
  obtain rfl : n2 = 2 := h2.1
  obtain rfl : n3 = 2 := h3.1
  obtain ⟨b1, o1, rfl, l1, _⟩ := h1.at (by simp)
  obtain ⟨b2, o2, rfl, l2, _⟩ := h2.at (by simp)
  obtain ⟨b3, o3, rfl, l3, _⟩ := h3.at (by simp)
  have H1 := Lib.hid h1; have H2 := Lib.hid h2; have H3 := Lib.hid h3
  have Q1 := Lib.hid (show ∀ x ∈ [p0, p1, p2, p3], 0 ≤ x ∧ x ≤ 3000 by simp; omega)
  have Q2 := Lib.hid (show ∀ x ∈ [t0, t1], 0 ≤ x ∧ x ≤ 3000 by simp; omega)
  have Q3 := Lib.hid (show ∀ x ∈ [u0, u1], 0 ≤ x ∧ x ≤ 3000 by simp; omega)
  clear h1 h2 h3 r0 r1 r2 r3 s0 s1 q0 q1
  go_enter Try.func33, Try.ntmps33
  go_wp2
  have fB : Below w.heap.size w (((w.alloc (.cells #[.int .i64 tab, .slice (some ⟨b1, o1, none⟩) 4 c1, .int .i64 h, .slice (some ⟨b2, o2, none⟩) 2 c2, .slice (some ⟨b3, o3, none⟩) 2 c3, .int .i64 slot, .bool op] 83)).alloc (.cells #[.int .i64 0, .slice none 0 0, .int .i64 0, .slice none 0 0, .slice none 0 0, .int .i64 0, .bool false] 83)).alloc (.cells #[.int .i64 tab, .slice (some ⟨b1, o1, none⟩) 4 c1, .int .i64 h, .slice (some ⟨b2, o2, none⟩) 2 c2, .slice (some ⟨b3, o3, none⟩) 2 c3, .int .i64 slot, .bool op] 83)) := (by repeat (first | exact Below.refl _ _ | assumption | apply Below.drew | (refine balloc ?_ _)))
  have fX : (((w.alloc (.cells #[.int .i64 tab, .slice (some ⟨b1, o1, none⟩) 4 c1, .int .i64 h, .slice (some ⟨b2, o2, none⟩) 2 c2, .slice (some ⟨b3, o3, none⟩) 2 c3, .int .i64 slot, .bool op] 83)).alloc (.cells #[.int .i64 0, .slice none 0 0, .int .i64 0, .slice none 0 0, .slice none 0 0, .int .i64 0, .bool false] 83)).alloc (.cells #[.int .i64 tab, .slice (some ⟨b1, o1, none⟩) 4 c1, .int .i64 h, .slice (some ⟨b2, o2, none⟩) 2 c2, .slice (some ⟨b3, o3, none⟩) 2 c3, .int .i64 slot, .bool op] 83)).heap[w.heap.size]? = some (.cells #[.int .i64 tab, .slice (some ⟨b1, o1, none⟩) 4 c1, .int .i64 h, .slice (some ⟨b2, o2, none⟩) 2 c2, .slice (some ⟨b3, o3, none⟩) 2 c3, .int .i64 slot, .bool op] 83 (0, 0)) := by rw [Below.heap_alloc _ _ _ (by simp; omega), Below.heap_alloc _ _ _ (by simp)]; exact heap_alloc_new _ _
  have fZ : (((w.alloc (.cells #[.int .i64 tab, .slice (some ⟨b1, o1, none⟩) 4 c1, .int .i64 h, .slice (some ⟨b2, o2, none⟩) 2 c2, .slice (some ⟨b3, o3, none⟩) 2 c3, .int .i64 slot, .bool op] 83)).alloc (.cells #[.int .i64 0, .slice none 0 0, .int .i64 0, .slice none 0 0, .slice none 0 0, .int .i64 0, .bool false] 83)).alloc (.cells #[.int .i64 tab, .slice (some ⟨b1, o1, none⟩) 4 c1, .int .i64 h, .slice (some ⟨b2, o2, none⟩) 2 c2, .slice (some ⟨b3, o3, none⟩) 2 c3, .int .i64 slot, .bool op] 83)).heap[w.heap.size + 1]? = some (.cells #[.int .i64 0, .slice none 0 0, .int .i64 0, .slice none 0 0, .slice none 0 0, .int .i64 0, .bool false] 83 (0, 0)) := by rw [Below.heap_alloc _ _ _ (by simp)]; exact block_new (by simp)
  have fT : (((w.alloc (.cells #[.int .i64 tab, .slice (some ⟨b1, o1, none⟩) 4 c1, .int .i64 h, .slice (some ⟨b2, o2, none⟩) 2 c2, .slice (some ⟨b3, o3, none⟩) 2 c3, .int .i64 slot, .bool op] 83)).alloc (.cells #[.int .i64 0, .slice none 0 0, .int .i64 0, .slice none 0 0, .slice none 0 0, .int .i64 0, .bool false] 83)).alloc (.cells #[.int .i64 tab, .slice (some ⟨b1, o1, none⟩) 4 c1, .int .i64 h, .slice (some ⟨b2, o2, none⟩) 2 c2, .slice (some ⟨b3, o3, none⟩) 2 c3, .int .i64 slot, .bool op] 83)).heap[w.heap.size + 1 + 1]? = some (.cells #[.int .i64 tab, .slice (some ⟨b1, o1, none⟩) 4 c1, .int .i64 h, .slice (some ⟨b2, o2, none⟩) 2 c2, .slice (some ⟨b3, o3, none⟩) 2 c3, .int .i64 slot, .bool op] 83 (0, 0)) := block_new (by simp)
  have fs : w.heap.size + 1 + 1 < (((w.alloc (.cells #[.int .i64 tab, .slice (some ⟨b1, o1, none⟩) 4 c1, .int .i64 h, .slice (some ⟨b2, o2, none⟩) 2 c2, .slice (some ⟨b3, o3, none⟩) 2 c3, .int .i64 slot, .bool op] 83)).alloc (.cells #[.int .i64 0, .slice none 0 0, .int .i64 0, .slice none 0 0, .slice none 0 0, .int .i64 0, .bool false] 83)).alloc (.cells #[.int .i64 tab, .slice (some ⟨b1, o1, none⟩) 4 c1, .int .i64 h, .slice (some ⟨b2, o2, none⟩) 2 c2, .slice (some ⟨b3, o3, none⟩) 2 c3, .int .i64 slot, .bool op] 83)).heap.size := by simp
  generalize (((w.alloc (.cells #[.int .i64 tab, .slice (some ⟨b1, o1, none⟩) 4 c1, .int .i64 h, .slice (some ⟨b2, o2, none⟩) 2 c2, .slice (some ⟨b3, o3, none⟩) 2 c3, .int .i64 slot, .bool op] 83)).alloc (.cells #[.int .i64 0, .slice none 0 0, .int .i64 0, .slice none 0 0, .slice none 0 0, .int .i64 0, .bool false] 83)).alloc (.cells #[.int .i64 tab, .slice (some ⟨b1, o1, none⟩) 4 c1, .int .i64 h, .slice (some ⟨b2, o2, none⟩) 2 c2, .slice (some ⟨b3, o3, none⟩) 2 c3, .int .i64 slot, .bool op] 83)) = W at fB fX fZ fT fs ⊢
  have x1 : W.cell? ⟨w.heap.size, 1, none⟩ = some (.slice (some ⟨b1, o1, none⟩) 4 c1) := Joins.cell_of_block fX 1
  have x2 : W.cell? ⟨w.heap.size, 2, none⟩ = some (.int .i64 h) := Joins.cell_of_block fX 2
  have FX := Lib.hid fX; have FZ := Lib.hid fZ; have FT := Lib.hid fT; have FB := Lib.hid fB
  clear fX fZ fT fB
  go_wp2_with fail
  go_region_held3 (fun w' => w'.cell? ⟨w.heap.size, 1, none⟩ = some (.slice (some ⟨b1, o1, none⟩) 4 c1) ∧ w'.cell? ⟨w.heap.size, 2, none⟩ = some (.int .i64 h))
    (first
      | (refine ⟨(Below.cell (B := W.heap.size) (w := W) ?_ (by show w.heap.size < _; omega)).trans x1, (Below.cell (B := W.heap.size) (w := W) ?_ (by show w.heap.size < _; omega)).trans x2⟩ <;> (repeat (first | exact Below.refl _ _ | assumption | apply Below.drew | refine balloc ?_ _)); done)
      | (refine ⟨(cell_set_other _ _ _ _ ?_).trans z1, (cell_set_other _ _ _ _ ?_).trans z2⟩ <;> (show w.heap.size + 1 + 1 ≠ w.heap.size; omega))
      | (refine ⟨(cell_set_other _ _ _ _ ?_).trans ((cell_set_other _ _ _ _ ?_).trans z1), (cell_set_other _ _ _ _ ?_).trans ((cell_set_other _ _ _ _ ?_).trans z2)⟩ <;> (show w.heap.size + 1 + 1 ≠ w.heap.size; omega))
      | go_keep)
    (first
      | (go_at_call 55; refine (off1_any 1 long _).mono ?_; rintro e w' ⟨rfl, rfl⟩)
      | (go_at_call 48; refine (mapped_any 56 Try.call56 _ (clamp 1 long) _ _ _ [p0, p1, p2, p3] _ (H1.out.below (FB.out.trans ((show Below W.heap.size W _ from (by repeat (first | exact Below.refl _ _ | assumption | apply Below.drew | (refine balloc ?_ _)))).mono FB.out.size)) (Nat.le_refl _)) (by simp) (by simp) (fun_off 1 long _ _ _ _ (by simp) (by simp) (by simp; omega) (by simp) g1 g2 Q1.out)).mono ?_; rintro e w2 ⟨k1, cap1, rfl, hi1, hx, hk1⟩; have hb2 : Below W.heap.size W w2 := bnext (by repeat (first | exact Below.refl _ _ | assumption | apply Below.drew | (refine balloc ?_ _))) hx; clear hx)
      | (go_at_call 56; go_loud (refine (off11_any h 1 long ⟨w2.heap.size, 0, none⟩ ⟨w2.heap.size + 1, 0, none⟩ ((w2.alloc (.cells #[.int .i64 1] 3)).alloc (.cells #[.int .i64 long] 3)) (by simp) (by simp) (by omega) (by omega) g1 g2).mono ?_; rintro e w3 ⟨rfl, hx⟩; have hb3 : Below W.heap.size W w3 := bnext (by repeat (first | exact Below.refl _ _ | assumption | apply Below.drew | (refine balloc ?_ _))) hx; have z1 := (hb3.cell (p := ⟨w.heap.size, 1, none⟩) (by show w.heap.size < _; omega)).trans x1; have z2 := (hb3.cell (p := ⟨w.heap.size, 2, none⟩) (by show w.heap.size < _; omega)).trans x2; have y1 := Joins.cell_of_block ((hb3.block _ fs).trans FT.out) 1; have y2 := Joins.cell_of_block ((hb3.block _ fs).trans FT.out) 2; have y3 := Joins.unfrozen_of_block ((hb3.block _ fs).trans FT.out) 1; have y4 := Joins.unfrozen_of_block ((hb3.block _ fs).trans FT.out) 2; have hI2 := Lib.hid (hi1.below (bnext (balloc (balloc1 w2 _) _) hx) (Nat.le_refl _))))
      )
  have hkb1 : w.heap.size + 1 + 1 < k1 := by have := hb2.size; simp at hk1; omega
  have hb := hb3
  clear hb2 hb3 z1 z2 y1 y2 y3 y4 hi1 hk1 x1 x2
  have fX : ((w3.setCell ⟨w.heap.size + 1 + 1, 1, none⟩ (.slice (some ⟨k1, 0, none⟩) 4 cap1)).setCell ⟨w.heap.size + 1 + 1, 2, none⟩ (.int .i64 (clamp 1 long h))).heap[w.heap.size]? = some (.cells #[.int .i64 tab, .slice (some ⟨b1, o1, none⟩) 4 c1, .int .i64 h, .slice (some ⟨b2, o2, none⟩) 2 c2, .slice (some ⟨b3, o3, none⟩) 2 c3, .int .i64 slot, .bool op] 83 (0, 0)) := (Below.heap_setCell _ _ _ _ (by simp <;> omega)).trans ((Below.heap_setCell _ _ _ _ (by simp <;> omega)).trans ((hb.block _ (by omega)).trans FX.out))
  have fZ : ((w3.setCell ⟨w.heap.size + 1 + 1, 1, none⟩ (.slice (some ⟨k1, 0, none⟩) 4 cap1)).setCell ⟨w.heap.size + 1 + 1, 2, none⟩ (.int .i64 (clamp 1 long h))).heap[w.heap.size + 1]? = some (.cells #[.int .i64 0, .slice none 0 0, .int .i64 0, .slice none 0 0, .slice none 0 0, .int .i64 0, .bool false] 83 (0, 0)) := (Below.heap_setCell _ _ _ _ (by simp)).trans ((Below.heap_setCell _ _ _ _ (by simp)).trans ((hb.block _ (by omega)).trans FZ.out))
  have fT : ((w3.setCell ⟨w.heap.size + 1 + 1, 1, none⟩ (.slice (some ⟨k1, 0, none⟩) 4 cap1)).setCell ⟨w.heap.size + 1 + 1, 2, none⟩ (.int .i64 (clamp 1 long h))).heap[w.heap.size + 1 + 1]? = some (.cells #[.int .i64 tab, .slice (some ⟨k1, 0, none⟩) 4 cap1, .int .i64 (clamp 1 long h), .slice (some ⟨b2, o2, none⟩) 2 c2, .slice (some ⟨b3, o3, none⟩) 2 c3, .int .i64 slot, .bool op] 83 (0, 0)) := Joins.block_setCell (Joins.block_setCell ((hb.block _ fs).trans FT.out) _) _
  have fB : Below w.heap.size w ((w3.setCell ⟨w.heap.size + 1 + 1, 1, none⟩ (.slice (some ⟨k1, 0, none⟩) 4 cap1)).setCell ⟨w.heap.size + 1 + 1, 2, none⟩ (.int .i64 (clamp 1 long h))) := ((FB.out.trans (hb.mono FB.out.size)).setCell (by show w.heap.size ≤ w.heap.size + 1 + 1; omega) _).setCell (by show w.heap.size ≤ w.heap.size + 1 + 1; omega) _
  have fs' : w.heap.size + 1 + 1 < ((w3.setCell ⟨w.heap.size + 1 + 1, 1, none⟩ (.slice (some ⟨k1, 0, none⟩) 4 cap1)).setCell ⟨w.heap.size + 1 + 1, 2, none⟩ (.int .i64 (clamp 1 long h))).heap.size := by have := hb.size; simp [World.setCell]; omega
  have n1 : Ii ((w3.setCell ⟨w.heap.size + 1 + 1, 1, none⟩ (.slice (some ⟨k1, 0, none⟩) 4 cap1)).setCell ⟨w.heap.size + 1 + 1, 2, none⟩ (.int .i64 (clamp 1 long h))) (some ⟨k1, 0, none⟩) 4 cap1 ([p0, p1, p2, p3].map (clamp 1 long)) := Ii.set (Ii.set (hI2.out) (by intro b off hh; cases hh; show w.heap.size + 1 + 1 ≠ _; omega) _) (by intro b off hh; cases hh; show w.heap.size + 1 + 1 ≠ _; omega) _
  generalize ((w3.setCell ⟨w.heap.size + 1 + 1, 1, none⟩ (.slice (some ⟨k1, 0, none⟩) 4 cap1)).setCell ⟨w.heap.size + 1 + 1, 2, none⟩ (.int .i64 (clamp 1 long h))) = X1 at fX fZ fT fB fs' n1 ⊢
  clear FX FZ FT FB hb fs
  cases op with
  | true =>
    have x6 := Joins.cell_of_block fX 6
    simp only [List.getElem?_toArray, List.getElem?_cons_succ, List.getElem?_cons_zero] at x6
    have x := Joins.cell_of_block fX 4
    simp only [List.getElem?_toArray, List.getElem?_cons_succ, List.getElem?_cons_zero] at x
    have FX := Lib.hid fX; have FZ := Lib.hid fZ; have FT := Lib.hid fT; have FB := Lib.hid fB
    have fs := fs'
    clear fX fZ fT fB fs'
    go_wp2_with fail
    go_region_held3 (fun w' => w'.cell? ⟨w.heap.size, 4, none⟩ = some (.slice (some ⟨b3, o3, none⟩) 2 c3))
      (first
        | (refine (Below.cell (B := X1.heap.size) (w := X1) ?_ (by show w.heap.size < _; omega)).trans x <;> (repeat (first | exact Below.refl _ _ | assumption | apply Below.drew | refine balloc ?_ _)); done)
        | (refine (cell_set_other _ _ _ _ ?_).trans z <;> (show w.heap.size + 1 + 1 ≠ w.heap.size; omega))
        | go_keep)
      (first
        | (go_at_call 55; refine (off1_any 0 flaps _).mono ?_; rintro e w' ⟨rfl, rfl⟩)
        | (go_at_call 48; refine (mapped_any 56 Try.call56 _ (clamp 0 flaps) _ _ _ [u0, u1] _ (H3.out.below (FB.out.trans ((show Below X1.heap.size X1 _ from (by repeat (first | exact Below.refl _ _ | assumption | apply Below.drew | (refine balloc ?_ _)))).mono FB.out.size)) (Nat.le_refl _)) (by simp) (by simp) (fun_off 0 flaps _ _ _ _ (by simp) (by simp) (by simp; omega) (by simp) g3 g4 Q3.out)).mono ?_; rintro e wn ⟨k3, cap3, rfl, hin, hx, hkn⟩; have hb : Below X1.heap.size X1 wn := bnext (by repeat (first | exact Below.refl _ _ | assumption | apply Below.drew | (refine balloc ?_ _))) hx; clear hx; have z := (hb.cell (p := ⟨w.heap.size, 4, none⟩) (by show w.heap.size < _; omega)).trans x; have y1 := Joins.cell_of_block ((hb.block _ fs).trans FT.out) 4; have y3 := Joins.unfrozen_of_block ((hb.block _ fs).trans FT.out) 4))
    have hkb : w.heap.size + 1 + 1 < k3 := by simp at hkn; omega
    clear z y1 y3 x hkn
    have fX : (wn.setCell ⟨w.heap.size + 1 + 1, 4, none⟩ (.slice (some ⟨k3, 0, none⟩) 2 cap3)).heap[w.heap.size]? = some (.cells #[.int .i64 tab, .slice (some ⟨b1, o1, none⟩) 4 c1, .int .i64 h, .slice (some ⟨b2, o2, none⟩) 2 c2, .slice (some ⟨b3, o3, none⟩) 2 c3, .int .i64 slot, .bool true] 83 (0, 0)) := (Below.heap_setCell _ _ _ _ (by simp <;> omega)).trans ((hb.block _ (by omega)).trans FX.out)
    have fZ : (wn.setCell ⟨w.heap.size + 1 + 1, 4, none⟩ (.slice (some ⟨k3, 0, none⟩) 2 cap3)).heap[w.heap.size + 1]? = some (.cells #[.int .i64 0, .slice none 0 0, .int .i64 0, .slice none 0 0, .slice none 0 0, .int .i64 0, .bool false] 83 (0, 0)) := (Below.heap_setCell _ _ _ _ (by simp)).trans ((hb.block _ (by omega)).trans FZ.out)
    have fT : (wn.setCell ⟨w.heap.size + 1 + 1, 4, none⟩ (.slice (some ⟨k3, 0, none⟩) 2 cap3)).heap[w.heap.size + 1 + 1]? = some (.cells #[.int .i64 tab, .slice (some ⟨k1, 0, none⟩) 4 cap1, .int .i64 (clamp 1 long h), .slice (some ⟨b2, o2, none⟩) 2 c2, .slice (some ⟨k3, 0, none⟩) 2 cap3, .int .i64 slot, .bool true] 83 (0, 0)) := Joins.block_setCell ((hb.block _ fs).trans FT.out) _
    have fB : Below w.heap.size w (wn.setCell ⟨w.heap.size + 1 + 1, 4, none⟩ (.slice (some ⟨k3, 0, none⟩) 2 cap3)) := (FB.out.trans (hb.mono FB.out.size)).setCell (by show w.heap.size ≤ w.heap.size + 1 + 1; omega) _
    have fs' : w.heap.size + 1 + 1 < (wn.setCell ⟨w.heap.size + 1 + 1, 4, none⟩ (.slice (some ⟨k3, 0, none⟩) 2 cap3)).heap.size := by have := hb.size; simp [World.setCell]; omega
    have m1 : Ii (wn.setCell ⟨w.heap.size + 1 + 1, 4, none⟩ (.slice (some ⟨k3, 0, none⟩) 2 cap3)) (some ⟨k1, 0, none⟩) 4 cap1 ([p0, p1, p2, p3].map (clamp 1 long)) := Ii.set (n1.below hb (Nat.le_refl _)) (by intro b off hh; cases hh; show w.heap.size + 1 + 1 ≠ _; omega) _
    have n3 : Ii (wn.setCell ⟨w.heap.size + 1 + 1, 4, none⟩ (.slice (some ⟨k3, 0, none⟩) 2 cap3)) (some ⟨k3, 0, none⟩) 2 cap3 ([u0, u1].map (clamp 0 flaps)) := Ii.set (hin) (by intro b off hh; cases hh; show w.heap.size + 1 + 1 ≠ _; omega) _
    generalize (wn.setCell ⟨w.heap.size + 1 + 1, 4, none⟩ (.slice (some ⟨k3, 0, none⟩) 2 cap3)) = X3 at fX fZ fT fB fs' m1 n3 ⊢
    clear FX FZ FT FB hb fs
    have n1f := m1
    have n2f := H2.out.below fB (Nat.le_refl _)
    have t0c := Joins.cell_of_block fT 0
    have z0c := Joins.cell_of_block fZ 0
    have z0f := Joins.unfrozen_of_block fZ 0
    have t1c := Joins.cell_of_block fT 1
    have z1c := Joins.cell_of_block fZ 1
    have z1f := Joins.unfrozen_of_block fZ 1
    have t2c := Joins.cell_of_block fT 2
    have z2c := Joins.cell_of_block fZ 2
    have z2f := Joins.unfrozen_of_block fZ 2
    have t3c := Joins.cell_of_block fT 3
    have z3c := Joins.cell_of_block fZ 3
    have z3f := Joins.unfrozen_of_block fZ 3
    have t4c := Joins.cell_of_block fT 4
    have z4c := Joins.cell_of_block fZ 4
    have z4f := Joins.unfrozen_of_block fZ 4
    have t5c := Joins.cell_of_block fT 5
    have z5c := Joins.cell_of_block fZ 5
    have z5f := Joins.unfrozen_of_block fZ 5
    have t6c := Joins.cell_of_block fT 6
    have z6c := Joins.cell_of_block fZ 6
    have z6f := Joins.unfrozen_of_block fZ 6
    simp only [List.getElem?_toArray, List.getElem?_cons_succ, List.getElem?_cons_zero] at t0c z0c t1c z1c t2c z2c t3c z3c t4c z4c t5c z5c t6c z6c
    have FB := Lib.hid fB
    clear fX fZ fT fB
    go_wp2
    refine bodyPost_ret (v := .agg #[.int .i64 tab, .slice (some ⟨k1, 0, none⟩) 4 cap1, .int .i64 (clamp 1 long h), .slice (some ⟨b2, o2, none⟩) 2 c2, .slice (some ⟨k3, 0, none⟩) 2 cap3, .int .i64 slot, .bool true]) (by simp [results, Try.results33, go_sem, *]) rfl ⟨_, rfl, ⟨_, _, _, _, _, _, _, _, _, rfl, ?_, ?_, ?_⟩, ?_⟩
    · simp only [offB]
      repeat (refine Ii.set ?_ (by intro b off hh; cases hh; show w.heap.size + 1 ≠ _; omega) _)
      exact n1f
    · simp only [offB]
      repeat (refine Ii.set ?_ (by intro b off hh; cases hh; show w.heap.size + 1 ≠ _; omega) _)
      exact n2f
    · simp only [offB]
      repeat (refine Ii.set ?_ (by intro b off hh; cases hh; show w.heap.size + 1 ≠ _; omega) _)
      exact n3
    · repeat (refine Below.setCell ?_ (by show w.heap.size ≤ w.heap.size + 1; omega) _)
      exact FB.out
  | false =>
    have x6 := Joins.cell_of_block fX 6
    simp only [List.getElem?_toArray, List.getElem?_cons_succ, List.getElem?_cons_zero] at x6
    have x := Joins.cell_of_block fX 3
    simp only [List.getElem?_toArray, List.getElem?_cons_succ, List.getElem?_cons_zero] at x
    have FX := Lib.hid fX; have FZ := Lib.hid fZ; have FT := Lib.hid fT; have FB := Lib.hid fB
    have fs := fs'
    clear fX fZ fT fB fs'
    go_wp2_with fail
    go_region_held3 (fun w' => w'.cell? ⟨w.heap.size, 3, none⟩ = some (.slice (some ⟨b2, o2, none⟩) 2 c2))
      (first
        | (refine (Below.cell (B := X1.heap.size) (w := X1) ?_ (by show w.heap.size < _; omega)).trans x <;> (repeat (first | exact Below.refl _ _ | assumption | apply Below.drew | refine balloc ?_ _)); done)
        | (refine (cell_set_other _ _ _ _ ?_).trans z <;> (show w.heap.size + 1 + 1 ≠ w.heap.size; omega))
        | go_keep)
      (first
        | (go_at_call 55; refine (off1_any 0 flaps _).mono ?_; rintro e w' ⟨rfl, rfl⟩)
        | (go_at_call 48; refine (mapped_any 56 Try.call56 _ (clamp 0 flaps) _ _ _ [t0, t1] _ (H2.out.below (FB.out.trans ((show Below X1.heap.size X1 _ from (by repeat (first | exact Below.refl _ _ | assumption | apply Below.drew | (refine balloc ?_ _)))).mono FB.out.size)) (Nat.le_refl _)) (by simp) (by simp) (fun_off 0 flaps _ _ _ _ (by simp) (by simp) (by simp; omega) (by simp) g3 g4 Q2.out)).mono ?_; rintro e wn ⟨k2, cap2, rfl, hin, hx, hkn⟩; have hb : Below X1.heap.size X1 wn := bnext (by repeat (first | exact Below.refl _ _ | assumption | apply Below.drew | (refine balloc ?_ _))) hx; clear hx; have z := (hb.cell (p := ⟨w.heap.size, 3, none⟩) (by show w.heap.size < _; omega)).trans x; have y1 := Joins.cell_of_block ((hb.block _ fs).trans FT.out) 3; have y3 := Joins.unfrozen_of_block ((hb.block _ fs).trans FT.out) 3))
    have hkb : w.heap.size + 1 + 1 < k2 := by simp at hkn; omega
    clear z y1 y3 x hkn
    have fX : (wn.setCell ⟨w.heap.size + 1 + 1, 3, none⟩ (.slice (some ⟨k2, 0, none⟩) 2 cap2)).heap[w.heap.size]? = some (.cells #[.int .i64 tab, .slice (some ⟨b1, o1, none⟩) 4 c1, .int .i64 h, .slice (some ⟨b2, o2, none⟩) 2 c2, .slice (some ⟨b3, o3, none⟩) 2 c3, .int .i64 slot, .bool false] 83 (0, 0)) := (Below.heap_setCell _ _ _ _ (by simp <;> omega)).trans ((hb.block _ (by omega)).trans FX.out)
    have fZ : (wn.setCell ⟨w.heap.size + 1 + 1, 3, none⟩ (.slice (some ⟨k2, 0, none⟩) 2 cap2)).heap[w.heap.size + 1]? = some (.cells #[.int .i64 0, .slice none 0 0, .int .i64 0, .slice none 0 0, .slice none 0 0, .int .i64 0, .bool false] 83 (0, 0)) := (Below.heap_setCell _ _ _ _ (by simp)).trans ((hb.block _ (by omega)).trans FZ.out)
    have fT : (wn.setCell ⟨w.heap.size + 1 + 1, 3, none⟩ (.slice (some ⟨k2, 0, none⟩) 2 cap2)).heap[w.heap.size + 1 + 1]? = some (.cells #[.int .i64 tab, .slice (some ⟨k1, 0, none⟩) 4 cap1, .int .i64 (clamp 1 long h), .slice (some ⟨k2, 0, none⟩) 2 cap2, .slice (some ⟨b3, o3, none⟩) 2 c3, .int .i64 slot, .bool false] 83 (0, 0)) := Joins.block_setCell ((hb.block _ fs).trans FT.out) _
    have fB : Below w.heap.size w (wn.setCell ⟨w.heap.size + 1 + 1, 3, none⟩ (.slice (some ⟨k2, 0, none⟩) 2 cap2)) := (FB.out.trans (hb.mono FB.out.size)).setCell (by show w.heap.size ≤ w.heap.size + 1 + 1; omega) _
    have fs' : w.heap.size + 1 + 1 < (wn.setCell ⟨w.heap.size + 1 + 1, 3, none⟩ (.slice (some ⟨k2, 0, none⟩) 2 cap2)).heap.size := by have := hb.size; simp [World.setCell]; omega
    have m1 : Ii (wn.setCell ⟨w.heap.size + 1 + 1, 3, none⟩ (.slice (some ⟨k2, 0, none⟩) 2 cap2)) (some ⟨k1, 0, none⟩) 4 cap1 ([p0, p1, p2, p3].map (clamp 1 long)) := Ii.set (n1.below hb (Nat.le_refl _)) (by intro b off hh; cases hh; show w.heap.size + 1 + 1 ≠ _; omega) _
    have n2 : Ii (wn.setCell ⟨w.heap.size + 1 + 1, 3, none⟩ (.slice (some ⟨k2, 0, none⟩) 2 cap2)) (some ⟨k2, 0, none⟩) 2 cap2 ([t0, t1].map (clamp 0 flaps)) := Ii.set (hin) (by intro b off hh; cases hh; show w.heap.size + 1 + 1 ≠ _; omega) _
    generalize (wn.setCell ⟨w.heap.size + 1 + 1, 3, none⟩ (.slice (some ⟨k2, 0, none⟩) 2 cap2)) = X2 at fX fZ fT fB fs' m1 n2 ⊢
    clear FX FZ FT FB hb fs
    clear n1
    have n1 := m1
    clear m1
    have x := Joins.cell_of_block fX 4
    simp only [List.getElem?_toArray, List.getElem?_cons_succ, List.getElem?_cons_zero] at x
    have FX := Lib.hid fX; have FZ := Lib.hid fZ; have FT := Lib.hid fT; have FB := Lib.hid fB
    have fs := fs'
    clear fX fZ fT fB fs'
    go_wp2_with fail
    go_region_held3 (fun w' => w'.cell? ⟨w.heap.size, 4, none⟩ = some (.slice (some ⟨b3, o3, none⟩) 2 c3))
      (first
        | (refine (Below.cell (B := X2.heap.size) (w := X2) ?_ (by show w.heap.size < _; omega)).trans x <;> (repeat (first | exact Below.refl _ _ | assumption | apply Below.drew | refine balloc ?_ _)); done)
        | (refine (cell_set_other _ _ _ _ ?_).trans z <;> (show w.heap.size + 1 + 1 ≠ w.heap.size; omega))
        | go_keep)
      (first
        | (go_at_call 55; refine (off1_any 0 flaps _).mono ?_; rintro e w' ⟨rfl, rfl⟩)
        | (go_at_call 48; refine (mapped_any 56 Try.call56 _ (clamp 0 flaps) _ _ _ [u0, u1] _ (H3.out.below (FB.out.trans ((show Below X2.heap.size X2 _ from (by repeat (first | exact Below.refl _ _ | assumption | apply Below.drew | (refine balloc ?_ _)))).mono FB.out.size)) (Nat.le_refl _)) (by simp) (by simp) (fun_off 0 flaps _ _ _ _ (by simp) (by simp) (by simp; omega) (by simp) g3 g4 Q3.out)).mono ?_; rintro e wn ⟨k3, cap3, rfl, hin, hx, hkn⟩; have hb : Below X2.heap.size X2 wn := bnext (by repeat (first | exact Below.refl _ _ | assumption | apply Below.drew | (refine balloc ?_ _))) hx; clear hx; have z := (hb.cell (p := ⟨w.heap.size, 4, none⟩) (by show w.heap.size < _; omega)).trans x; have y1 := Joins.cell_of_block ((hb.block _ fs).trans FT.out) 4; have y3 := Joins.unfrozen_of_block ((hb.block _ fs).trans FT.out) 4))
    have hkb : w.heap.size + 1 + 1 < k3 := by simp at hkn; omega
    clear z y1 y3 x hkn
    have fX : (wn.setCell ⟨w.heap.size + 1 + 1, 4, none⟩ (.slice (some ⟨k3, 0, none⟩) 2 cap3)).heap[w.heap.size]? = some (.cells #[.int .i64 tab, .slice (some ⟨b1, o1, none⟩) 4 c1, .int .i64 h, .slice (some ⟨b2, o2, none⟩) 2 c2, .slice (some ⟨b3, o3, none⟩) 2 c3, .int .i64 slot, .bool false] 83 (0, 0)) := (Below.heap_setCell _ _ _ _ (by simp <;> omega)).trans ((hb.block _ (by omega)).trans FX.out)
    have fZ : (wn.setCell ⟨w.heap.size + 1 + 1, 4, none⟩ (.slice (some ⟨k3, 0, none⟩) 2 cap3)).heap[w.heap.size + 1]? = some (.cells #[.int .i64 0, .slice none 0 0, .int .i64 0, .slice none 0 0, .slice none 0 0, .int .i64 0, .bool false] 83 (0, 0)) := (Below.heap_setCell _ _ _ _ (by simp)).trans ((hb.block _ (by omega)).trans FZ.out)
    have fT : (wn.setCell ⟨w.heap.size + 1 + 1, 4, none⟩ (.slice (some ⟨k3, 0, none⟩) 2 cap3)).heap[w.heap.size + 1 + 1]? = some (.cells #[.int .i64 tab, .slice (some ⟨k1, 0, none⟩) 4 cap1, .int .i64 (clamp 1 long h), .slice (some ⟨k2, 0, none⟩) 2 cap2, .slice (some ⟨k3, 0, none⟩) 2 cap3, .int .i64 slot, .bool false] 83 (0, 0)) := Joins.block_setCell ((hb.block _ fs).trans FT.out) _
    have fB : Below w.heap.size w (wn.setCell ⟨w.heap.size + 1 + 1, 4, none⟩ (.slice (some ⟨k3, 0, none⟩) 2 cap3)) := (FB.out.trans (hb.mono FB.out.size)).setCell (by show w.heap.size ≤ w.heap.size + 1 + 1; omega) _
    have fs' : w.heap.size + 1 + 1 < (wn.setCell ⟨w.heap.size + 1 + 1, 4, none⟩ (.slice (some ⟨k3, 0, none⟩) 2 cap3)).heap.size := by have := hb.size; simp [World.setCell]; omega
    have m1 : Ii (wn.setCell ⟨w.heap.size + 1 + 1, 4, none⟩ (.slice (some ⟨k3, 0, none⟩) 2 cap3)) (some ⟨k1, 0, none⟩) 4 cap1 ([p0, p1, p2, p3].map (clamp 1 long)) := Ii.set (n1.below hb (Nat.le_refl _)) (by intro b off hh; cases hh; show w.heap.size + 1 + 1 ≠ _; omega) _
    have n3 : Ii (wn.setCell ⟨w.heap.size + 1 + 1, 4, none⟩ (.slice (some ⟨k3, 0, none⟩) 2 cap3)) (some ⟨k3, 0, none⟩) 2 cap3 ([u0, u1].map (clamp 0 flaps)) := Ii.set (hin) (by intro b off hh; cases hh; show w.heap.size + 1 + 1 ≠ _; omega) _
    have m2 : Ii (wn.setCell ⟨w.heap.size + 1 + 1, 4, none⟩ (.slice (some ⟨k3, 0, none⟩) 2 cap3)) (some ⟨k2, 0, none⟩) 2 cap2 ([t0, t1].map (clamp 0 flaps)) := Ii.set (n2.below hb (Nat.le_refl _)) (by intro b off hh; cases hh; show w.heap.size + 1 + 1 ≠ _; omega) _
    generalize (wn.setCell ⟨w.heap.size + 1 + 1, 4, none⟩ (.slice (some ⟨k3, 0, none⟩) 2 cap3)) = X3 at fX fZ fT fB fs' m1 n3 m2 ⊢
    clear FX FZ FT FB hb fs
    have n1f := m1
    have n2f := m2
    have t0c := Joins.cell_of_block fT 0
    have z0c := Joins.cell_of_block fZ 0
    have z0f := Joins.unfrozen_of_block fZ 0
    have t1c := Joins.cell_of_block fT 1
    have z1c := Joins.cell_of_block fZ 1
    have z1f := Joins.unfrozen_of_block fZ 1
    have t2c := Joins.cell_of_block fT 2
    have z2c := Joins.cell_of_block fZ 2
    have z2f := Joins.unfrozen_of_block fZ 2
    have t3c := Joins.cell_of_block fT 3
    have z3c := Joins.cell_of_block fZ 3
    have z3f := Joins.unfrozen_of_block fZ 3
    have t4c := Joins.cell_of_block fT 4
    have z4c := Joins.cell_of_block fZ 4
    have z4f := Joins.unfrozen_of_block fZ 4
    have t5c := Joins.cell_of_block fT 5
    have z5c := Joins.cell_of_block fZ 5
    have z5f := Joins.unfrozen_of_block fZ 5
    have t6c := Joins.cell_of_block fT 6
    have z6c := Joins.cell_of_block fZ 6
    have z6f := Joins.unfrozen_of_block fZ 6
    simp only [List.getElem?_toArray, List.getElem?_cons_succ, List.getElem?_cons_zero] at t0c z0c t1c z1c t2c z2c t3c z3c t4c z4c t5c z5c t6c z6c
    have FB := Lib.hid fB
    clear fX fZ fT fB
    go_wp2
    refine bodyPost_ret (v := .agg #[.int .i64 tab, .slice (some ⟨k1, 0, none⟩) 4 cap1, .int .i64 (clamp 1 long h), .slice (some ⟨k2, 0, none⟩) 2 cap2, .slice (some ⟨k3, 0, none⟩) 2 cap3, .int .i64 slot, .bool false]) (by simp [results, Try.results33, go_sem, *]) rfl ⟨_, rfl, ⟨_, _, _, _, _, _, _, _, _, rfl, ?_, ?_, ?_⟩, ?_⟩
    · simp only [offB]
      repeat (refine Ii.set ?_ (by intro b off hh; cases hh; show w.heap.size + 1 ≠ _; omega) _)
      exact n1f
    · simp only [offB]
      repeat (refine Ii.set ?_ (by intro b off hh; cases hh; show w.heap.size + 1 ≠ _; omega) _)
      exact n2f
    · simp only [offB]
      repeat (refine Ii.set ?_ (by intro b off hh; cases hh; show w.heap.size + 1 ≠ _; omega) _)
      exact n3
    · repeat (refine Below.setCell ?_ (by show w.heap.size ≤ w.heap.size + 1; omega) _)
      exact FB.out
end Go.Proofs.Ytiocklgakklkpaa
