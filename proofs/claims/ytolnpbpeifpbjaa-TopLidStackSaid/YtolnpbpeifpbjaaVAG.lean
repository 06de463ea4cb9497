/- Part of the proof: what the claim leans on. -/
import Derived.Test.YtolnpbpeifpbjaaVAF
set_option maxHeartbeats 4000000
set_option maxRecDepth 100000
set_option linter.unusedSimpArgs false
set_option linter.unusedVariables false
namespace Go.Proofs.Ytolnpbpeifpbjaa
open Go.RowKit
def holdsOf (b : Bl) (w : Wi) (check : Nat) : Sp :=
  if check = 9 then both every (1, 1000 * b.slot)
  else if (check = 5 ∨ check = 6) ∧ (b.isOpen || w.isOpen) = true then if check = 5 ∧ b.isOpen ≠ w.isOpen then (1, 0) else every
  else amongOf ((meas b).getD check (0, 0)) (targetOf w check)
def WishIn (w : Wi) : Prop := ∀ s ∈ [w.length, w.width, w.height, w.outer, w.inner], -3000 ≤ s.1 ∧ s.1 ≤ 3000 ∧ -3000 ≤ s.2 ∧ s.2 ≤ 3000
theorem targetOf_in {w : Wi} (h : WishIn w) (k : Nat) : -3000 ≤ (targetOf w k).1 ∧ (targetOf w k).1 ≤ 3000 ∧ -3000 ≤ (targetOf w k).2 ∧ (targetOf w k).2 ≤ 3000 := by
  have h0 := h w.length (by simp); have h1 := h w.width (by simp); have h2 := h w.height (by simp); have h3 := h w.outer (by simp); have h4 := h w.inner (by simp)
  unfold targetOf
  split <;> assumption
def SpanP (s : Sp) (w : World) (e : Ending) (w' : World) : Prop := e = .returned (.agg #[.int .i64 s.1, .int .i64 s.2]) ∧ Below w.heap.size w w'
theorem holds_9 (v : Value) (b : Bl) (l1 h1 l2 h2 l3 h3 l4 h4 l5 h5 : Int) (wo : Bool) (w : World) (hB : Blk w v b) (_hF : Fine b) (hs : 0 ≤ b.slot ∧ b.slot ≤ 20) (_hw : WishIn ⟨(l1, h1), (l2, h2), (l3, h3), (l4, h4), (l5, h5), wo⟩) :
    Calls Try.prog 62 #[v, .agg #[.int .i64 l1, .int .i64 h1, .int .i64 l2, .int .i64 h2, .int .i64 l3, .int .i64 h3, .int .i64 l4, .int .i64 h4, .int .i64 l5, .int .i64 h5, .bool wo], .int .i64 9] w (SpanP (holdsOf b ⟨(l1, h1), (l2, h2), (l3, h3), (l4, h4), (l5, h5), wo⟩ 9) w) := by
  obtain ⟨a1, n1, c1, a2, n2, c2, a3, n3, c3, rfl, k1, k2, k3⟩ := hB
  have HB := Lib.hid (show Blk w (.agg #[.int .i64 b.tab, .slice a1 n1 c1, .int .i64 b.height, .slice a2 n2 c2, .slice a3 n3 c3, .int .i64 b.slot, .bool b.isOpen]) b from ⟨a1, n1, c1, a2, n2, c2, a3, n3, c3, rfl, k1, k2, k3⟩)
  clear k1 k2 k3
  have hm : 0 ≤ 1000 * b.slot ∧ 1000 * b.slot ≤ 20000 := by omega
  have wm : IntKind.i64.wrap (1000 * b.slot) = 1000 * b.slot := IntWalk.i64_in _ (by omega)
  have E := Lib.hid (show holdsOf b ⟨(l1, h1), (l2, h2), (l3, h3), (l4, h4), (l5, h5), wo⟩ 9 = (max 1 1, min 10000 (1000 * b.slot)) from rfl)
  generalize holdsOf b ⟨(l1, h1), (l2, h2), (l3, h3), (l4, h4), (l5, h5), wo⟩ 9 = R at *
  clear HB
  go_enter Try.func62, Try.ntmps62
  go_wp2_with fail
  have fB : Below w.heap.size w (((w.alloc (.cells #[.int .i64 b.tab, .slice a1 n1 c1, .int .i64 b.height, .slice a2 n2 c2, .slice a3 n3 c3, .int .i64 b.slot, .bool b.isOpen] 118)).alloc (.cells #[.int .i64 l1, .int .i64 h1, .int .i64 l2, .int .i64 h2, .int .i64 l3, .int .i64 h3, .int .i64 l4, .int .i64 h4, .int .i64 l5, .int .i64 h5, .bool wo] 110)).alloc (.cells #[.int .i64 0, .int .i64 0] 62)) := (by repeat (first | exact Below.refl _ _ | assumption | apply Below.drew | (refine balloc ?_ _)))
  have fX : (((w.alloc (.cells #[.int .i64 b.tab, .slice a1 n1 c1, .int .i64 b.height, .slice a2 n2 c2, .slice a3 n3 c3, .int .i64 b.slot, .bool b.isOpen] 118)).alloc (.cells #[.int .i64 l1, .int .i64 h1, .int .i64 l2, .int .i64 h2, .int .i64 l3, .int .i64 h3, .int .i64 l4, .int .i64 h4, .int .i64 l5, .int .i64 h5, .bool wo] 110)).alloc (.cells #[.int .i64 0, .int .i64 0] 62)).heap[w.heap.size]? = some (.cells #[.int .i64 b.tab, .slice a1 n1 c1, .int .i64 b.height, .slice a2 n2 c2, .slice a3 n3 c3, .int .i64 b.slot, .bool b.isOpen] 118 (0, 0)) := blk_past (blk_past (blk_new rfl))
  have fZ : (((w.alloc (.cells #[.int .i64 b.tab, .slice a1 n1 c1, .int .i64 b.height, .slice a2 n2 c2, .slice a3 n3 c3, .int .i64 b.slot, .bool b.isOpen] 118)).alloc (.cells #[.int .i64 l1, .int .i64 h1, .int .i64 l2, .int .i64 h2, .int .i64 l3, .int .i64 h3, .int .i64 l4, .int .i64 h4, .int .i64 l5, .int .i64 h5, .bool wo] 110)).alloc (.cells #[.int .i64 0, .int .i64 0] 62)).heap[w.heap.size + 1 + 1]? = some (.cells #[.int .i64 0, .int .i64 0] 62 (0, 0)) := blk_new (by simp)
  have fs : w.heap.size + 1 + 1 < (((w.alloc (.cells #[.int .i64 b.tab, .slice a1 n1 c1, .int .i64 b.height, .slice a2 n2 c2, .slice a3 n3 c3, .int .i64 b.slot, .bool b.isOpen] 118)).alloc (.cells #[.int .i64 l1, .int .i64 h1, .int .i64 l2, .int .i64 h2, .int .i64 l3, .int .i64 h3, .int .i64 l4, .int .i64 h4, .int .i64 l5, .int .i64 h5, .bool wo] 110)).alloc (.cells #[.int .i64 0, .int .i64 0] 62)).heap.size := by simp
  generalize (((w.alloc (.cells #[.int .i64 b.tab, .slice a1 n1 c1, .int .i64 b.height, .slice a2 n2 c2, .slice a3 n3 c3, .int .i64 b.slot, .bool b.isOpen] 118)).alloc (.cells #[.int .i64 l1, .int .i64 h1, .int .i64 l2, .int .i64 h2, .int .i64 l3, .int .i64 h3, .int .i64 l4, .int .i64 h4, .int .i64 l5, .int .i64 h5, .bool wo] 110)).alloc (.cells #[.int .i64 0, .int .i64 0] 62)) = W at fB fX fZ fs ⊢
  have x5 : W.cell? ⟨w.heap.size, 5, none⟩ = some (.int .i64 b.slot) := Joins.cell_of_block fX 5
  have FZ := Lib.hid fZ; have FB := Lib.hid fB
  clear fX fZ fB hs hm
  go_wp2_with fail
  go_region_held3 (fun w' => w'.cell? ⟨w.heap.size, 5, none⟩ = some (.int .i64 b.slot))
    (first
      | (refine ((Below.cell (B := W.heap.size) (w := W) ?_ (by show w.heap.size < _; omega)).trans x5) <;> (repeat (first | exact Below.refl _ _ | assumption | apply Below.drew | refine balloc ?_ _)); done)
      | (refine ((cell_set_other _ _ _ _ ?_).trans ((cell_set_other _ _ _ _ ?_).trans ((Below.cell (B := W.heap.size) (w := W) hbd (by show w.heap.size < _; omega)).trans x5))) <;> (first | (show w.heap.size + 1 + 1 ≠ w.heap.size; omega)))
      | go_keep)
    (first
      | (go_at_call 87; (with_reducible refine (every_any _).mono ?_); rintro e wa ⟨rfl, hx⟩; have hba : Below W.heap.size W wa := bnext (by repeat (first | exact Below.refl _ _ | assumption | apply Below.drew | (refine balloc ?_ _))) hx; clear hx)
      | (go_at_call 86; (with_reducible refine (both_any _ _ _ _ _).mono ?_); rintro e wd ⟨rfl, hx⟩; have hbd : Below W.heap.size W wd := bnext (by repeat (first | exact Below.refl _ _ | assumption | apply Below.drew | (refine balloc ?_ _))) hx; clear hx; have z0 := Joins.cell_of_block ((hbd.block _ fs).trans FZ.out) 0; have z1 := Joins.cell_of_block ((hbd.block _ fs).trans FZ.out) 1; have u0 := Joins.unfrozen_of_block ((hbd.block _ fs).trans FZ.out) 0; have u1 := Joins.unfrozen_of_block ((hbd.block _ fs).trans FZ.out) 1))
  clear x5 wm
  go_wp2
  refine bodyPost_ret (v := .agg #[.int .i64 (max 1 1), .int .i64 (min 10000 (1000 * b.slot))]) (by simp [results, Try.results62, go_sem, *]) rfl ⟨by rw [E.out], ?_⟩
  exact ((bnext FB.out hbd).setCell (by show w.heap.size ≤ w.heap.size + 1 + 1; omega) _).setCell (by show w.heap.size ≤ w.heap.size + 1 + 1; omega) _
theorem holds_5_tt (v : Value) (b : Bl) (l1 h1 l2 h2 l3 h3 l4 h4 l5 h5 : Int) (w : World) (hB : Blk w v b) (_hF : Fine b) (_hs : 0 ≤ b.slot ∧ b.slot ≤ 20) (_hw : WishIn ⟨(l1, h1), (l2, h2), (l3, h3), (l4, h4), (l5, h5), true⟩) (ho : b.isOpen = true) :
    Calls Try.prog 62 #[v, .agg #[.int .i64 l1, .int .i64 h1, .int .i64 l2, .int .i64 h2, .int .i64 l3, .int .i64 h3, .int .i64 l4, .int .i64 h4, .int .i64 l5, .int .i64 h5, .bool true], .int .i64 5] w (SpanP (holdsOf b ⟨(l1, h1), (l2, h2), (l3, h3), (l4, h4), (l5, h5), true⟩ 5) w) := by
  obtain ⟨a1, n1, c1, a2, n2, c2, a3, n3, c3, rfl, k1, k2, k3⟩ := hB
  rw [ho]
  have HB := Lib.hid (show Blk w (.agg #[.int .i64 b.tab, .slice a1 n1 c1, .int .i64 b.height, .slice a2 n2 c2, .slice a3 n3 c3, .int .i64 b.slot, .bool b.isOpen]) b from ⟨a1, n1, c1, a2, n2, c2, a3, n3, c3, rfl, k1, k2, k3⟩)
  rw [ho] at HB
  clear k1 k2 k3
  have E := Lib.hid (show holdsOf b ⟨(l1, h1), (l2, h2), (l3, h3), (l4, h4), (l5, h5), true⟩ 5 = every by simp [holdsOf, ho])
  generalize holdsOf b ⟨(l1, h1), (l2, h2), (l3, h3), (l4, h4), (l5, h5), true⟩ 5 = R at *
  clear HB
  go_enter Try.func62, Try.ntmps62
  have FB : Below w.heap.size w (((w.alloc (.cells #[.int .i64 b.tab, .slice a1 n1 c1, .int .i64 b.height, .slice a2 n2 c2, .slice a3 n3 c3, .int .i64 b.slot, .bool true] 118)).alloc (.cells #[.int .i64 l1, .int .i64 h1, .int .i64 l2, .int .i64 h2, .int .i64 l3, .int .i64 h3, .int .i64 l4, .int .i64 h4, .int .i64 l5, .int .i64 h5, .bool true] 110)).alloc (.cells #[.int .i64 0, .int .i64 0] 62)) := (by repeat (first | exact Below.refl _ _ | assumption | apply Below.drew | (refine balloc ?_ _)))
  have FZ : (((w.alloc (.cells #[.int .i64 b.tab, .slice a1 n1 c1, .int .i64 b.height, .slice a2 n2 c2, .slice a3 n3 c3, .int .i64 b.slot, .bool true] 118)).alloc (.cells #[.int .i64 l1, .int .i64 h1, .int .i64 l2, .int .i64 h2, .int .i64 l3, .int .i64 h3, .int .i64 l4, .int .i64 h4, .int .i64 l5, .int .i64 h5, .bool true] 110)).alloc (.cells #[.int .i64 0, .int .i64 0] 62)).heap[w.heap.size + 1 + 1]? = some (.cells #[.int .i64 0, .int .i64 0] 62 (0, 0)) := blk_new (by simp)
  have fs : w.heap.size + 1 + 1 < (((w.alloc (.cells #[.int .i64 b.tab, .slice a1 n1 c1, .int .i64 b.height, .slice a2 n2 c2, .slice a3 n3 c3, .int .i64 b.slot, .bool true] 118)).alloc (.cells #[.int .i64 l1, .int .i64 h1, .int .i64 l2, .int .i64 h2, .int .i64 l3, .int .i64 h3, .int .i64 l4, .int .i64 h4, .int .i64 l5, .int .i64 h5, .bool true] 110)).alloc (.cells #[.int .i64 0, .int .i64 0] 62)).heap.size := by simp
  have HFB := Lib.hid FB; have HFZ := Lib.hid FZ; have Hfs := Lib.hid fs
  clear FB FZ fs
  go_wp2_with ((with_reducible refine (every_any _).mono ?_); rintro e wd ⟨rfl, hbd⟩; have z0 := Joins.cell_of_block ((hbd.block _ Hfs.out).trans HFZ.out) 0; have z1 := Joins.cell_of_block ((hbd.block _ Hfs.out).trans HFZ.out) 1; have u0 := Joins.unfrozen_of_block ((hbd.block _ Hfs.out).trans HFZ.out) 0; have u1 := Joins.unfrozen_of_block ((hbd.block _ Hfs.out).trans HFZ.out) 1)
  refine bodyPost_ret (v := .agg #[.int .i64 1, .int .i64 10000]) (by simp [results, Try.results62, go_sem, *]) rfl ⟨by rw [E.out]; rfl, ?_⟩
  exact ((bnext HFB.out hbd).setCell (by show w.heap.size ≤ w.heap.size + 1 + 1; omega) _).setCell (by show w.heap.size ≤ w.heap.size + 1 + 1; omega) _
theorem holds_6_tt (v : Value) (b : Bl) (l1 h1 l2 h2 l3 h3 l4 h4 l5 h5 : Int) (w : World) (hB : Blk w v b) (_hF : Fine b) (_hs : 0 ≤ b.slot ∧ b.slot ≤ 20) (_hw : WishIn ⟨(l1, h1), (l2, h2), (l3, h3), (l4, h4), (l5, h5), true⟩) (ho : b.isOpen = true) :
    Calls Try.prog 62 #[v, .agg #[.int .i64 l1, .int .i64 h1, .int .i64 l2, .int .i64 h2, .int .i64 l3, .int .i64 h3, .int .i64 l4, .int .i64 h4, .int .i64 l5, .int .i64 h5, .bool true], .int .i64 6] w (SpanP (holdsOf b ⟨(l1, h1), (l2, h2), (l3, h3), (l4, h4), (l5, h5), true⟩ 6) w) := by
  obtain ⟨a1, n1, c1, a2, n2, c2, a3, n3, c3, rfl, k1, k2, k3⟩ := hB
  rw [ho]
  have HB := Lib.hid (show Blk w (.agg #[.int .i64 b.tab, .slice a1 n1 c1, .int .i64 b.height, .slice a2 n2 c2, .slice a3 n3 c3, .int .i64 b.slot, .bool b.isOpen]) b from ⟨a1, n1, c1, a2, n2, c2, a3, n3, c3, rfl, k1, k2, k3⟩)
  rw [ho] at HB
  clear k1 k2 k3
  have E := Lib.hid (show holdsOf b ⟨(l1, h1), (l2, h2), (l3, h3), (l4, h4), (l5, h5), true⟩ 6 = every by simp [holdsOf, ho])
  generalize holdsOf b ⟨(l1, h1), (l2, h2), (l3, h3), (l4, h4), (l5, h5), true⟩ 6 = R at *
  clear HB
  go_enter Try.func62, Try.ntmps62
  have FB : Below w.heap.size w (((w.alloc (.cells #[.int .i64 b.tab, .slice a1 n1 c1, .int .i64 b.height, .slice a2 n2 c2, .slice a3 n3 c3, .int .i64 b.slot, .bool true] 118)).alloc (.cells #[.int .i64 l1, .int .i64 h1, .int .i64 l2, .int .i64 h2, .int .i64 l3, .int .i64 h3, .int .i64 l4, .int .i64 h4, .int .i64 l5, .int .i64 h5, .bool true] 110)).alloc (.cells #[.int .i64 0, .int .i64 0] 62)) := (by repeat (first | exact Below.refl _ _ | assumption | apply Below.drew | (refine balloc ?_ _)))
  have FZ : (((w.alloc (.cells #[.int .i64 b.tab, .slice a1 n1 c1, .int .i64 b.height, .slice a2 n2 c2, .slice a3 n3 c3, .int .i64 b.slot, .bool true] 118)).alloc (.cells #[.int .i64 l1, .int .i64 h1, .int .i64 l2, .int .i64 h2, .int .i64 l3, .int .i64 h3, .int .i64 l4, .int .i64 h4, .int .i64 l5, .int .i64 h5, .bool true] 110)).alloc (.cells #[.int .i64 0, .int .i64 0] 62)).heap[w.heap.size + 1 + 1]? = some (.cells #[.int .i64 0, .int .i64 0] 62 (0, 0)) := blk_new (by simp)
  have fs : w.heap.size + 1 + 1 < (((w.alloc (.cells #[.int .i64 b.tab, .slice a1 n1 c1, .int .i64 b.height, .slice a2 n2 c2, .slice a3 n3 c3, .int .i64 b.slot, .bool true] 118)).alloc (.cells #[.int .i64 l1, .int .i64 h1, .int .i64 l2, .int .i64 h2, .int .i64 l3, .int .i64 h3, .int .i64 l4, .int .i64 h4, .int .i64 l5, .int .i64 h5, .bool true] 110)).alloc (.cells #[.int .i64 0, .int .i64 0] 62)).heap.size := by simp
  have HFB := Lib.hid FB; have HFZ := Lib.hid FZ; have Hfs := Lib.hid fs
  clear FB FZ fs
  go_wp2_with ((with_reducible refine (every_any _).mono ?_); rintro e wd ⟨rfl, hbd⟩; have z0 := Joins.cell_of_block ((hbd.block _ Hfs.out).trans HFZ.out) 0; have z1 := Joins.cell_of_block ((hbd.block _ Hfs.out).trans HFZ.out) 1; have u0 := Joins.unfrozen_of_block ((hbd.block _ Hfs.out).trans HFZ.out) 0; have u1 := Joins.unfrozen_of_block ((hbd.block _ Hfs.out).trans HFZ.out) 1)
  refine bodyPost_ret (v := .agg #[.int .i64 1, .int .i64 10000]) (by simp [results, Try.results62, go_sem, *]) rfl ⟨by rw [E.out]; rfl, ?_⟩
  exact ((bnext HFB.out hbd).setCell (by show w.heap.size ≤ w.heap.size + 1 + 1; omega) _).setCell (by show w.heap.size ≤ w.heap.size + 1 + 1; omega) _
theorem holds_6_tf (v : Value) (b : Bl) (l1 h1 l2 h2 l3 h3 l4 h4 l5 h5 : Int) (w : World) (hB : Blk w v b) (_hF : Fine b) (_hs : 0 ≤ b.slot ∧ b.slot ≤ 20) (_hw : WishIn ⟨(l1, h1), (l2, h2), (l3, h3), (l4, h4), (l5, h5), false⟩) (ho : b.isOpen = true) :
    Calls Try.prog 62 #[v, .agg #[.int .i64 l1, .int .i64 h1, .int .i64 l2, .int .i64 h2, .int .i64 l3, .int .i64 h3, .int .i64 l4, .int .i64 h4, .int .i64 l5, .int .i64 h5, .bool false], .int .i64 6] w (SpanP (holdsOf b ⟨(l1, h1), (l2, h2), (l3, h3), (l4, h4), (l5, h5), false⟩ 6) w) := by
  obtain ⟨a1, n1, c1, a2, n2, c2, a3, n3, c3, rfl, k1, k2, k3⟩ := hB
  rw [ho]
  have HB := Lib.hid (show Blk w (.agg #[.int .i64 b.tab, .slice a1 n1 c1, .int .i64 b.height, .slice a2 n2 c2, .slice a3 n3 c3, .int .i64 b.slot, .bool b.isOpen]) b from ⟨a1, n1, c1, a2, n2, c2, a3, n3, c3, rfl, k1, k2, k3⟩)
  rw [ho] at HB
  clear k1 k2 k3
  have E := Lib.hid (show holdsOf b ⟨(l1, h1), (l2, h2), (l3, h3), (l4, h4), (l5, h5), false⟩ 6 = every by simp [holdsOf, ho])
  generalize holdsOf b ⟨(l1, h1), (l2, h2), (l3, h3), (l4, h4), (l5, h5), false⟩ 6 = R at *
  clear HB
  go_enter Try.func62, Try.ntmps62
  have FB : Below w.heap.size w (((w.alloc (.cells #[.int .i64 b.tab, .slice a1 n1 c1, .int .i64 b.height, .slice a2 n2 c2, .slice a3 n3 c3, .int .i64 b.slot, .bool true] 118)).alloc (.cells #[.int .i64 l1, .int .i64 h1, .int .i64 l2, .int .i64 h2, .int .i64 l3, .int .i64 h3, .int .i64 l4, .int .i64 h4, .int .i64 l5, .int .i64 h5, .bool false] 110)).alloc (.cells #[.int .i64 0, .int .i64 0] 62)) := (by repeat (first | exact Below.refl _ _ | assumption | apply Below.drew | (refine balloc ?_ _)))
  have FZ : (((w.alloc (.cells #[.int .i64 b.tab, .slice a1 n1 c1, .int .i64 b.height, .slice a2 n2 c2, .slice a3 n3 c3, .int .i64 b.slot, .bool true] 118)).alloc (.cells #[.int .i64 l1, .int .i64 h1, .int .i64 l2, .int .i64 h2, .int .i64 l3, .int .i64 h3, .int .i64 l4, .int .i64 h4, .int .i64 l5, .int .i64 h5, .bool false] 110)).alloc (.cells #[.int .i64 0, .int .i64 0] 62)).heap[w.heap.size + 1 + 1]? = some (.cells #[.int .i64 0, .int .i64 0] 62 (0, 0)) := blk_new (by simp)
  have fs : w.heap.size + 1 + 1 < (((w.alloc (.cells #[.int .i64 b.tab, .slice a1 n1 c1, .int .i64 b.height, .slice a2 n2 c2, .slice a3 n3 c3, .int .i64 b.slot, .bool true] 118)).alloc (.cells #[.int .i64 l1, .int .i64 h1, .int .i64 l2, .int .i64 h2, .int .i64 l3, .int .i64 h3, .int .i64 l4, .int .i64 h4, .int .i64 l5, .int .i64 h5, .bool false] 110)).alloc (.cells #[.int .i64 0, .int .i64 0] 62)).heap.size := by simp
  have HFB := Lib.hid FB; have HFZ := Lib.hid FZ; have Hfs := Lib.hid fs
  clear FB FZ fs
  go_wp2_with ((with_reducible refine (every_any _).mono ?_); rintro e wd ⟨rfl, hbd⟩; have z0 := Joins.cell_of_block ((hbd.block _ Hfs.out).trans HFZ.out) 0; have z1 := Joins.cell_of_block ((hbd.block _ Hfs.out).trans HFZ.out) 1; have u0 := Joins.unfrozen_of_block ((hbd.block _ Hfs.out).trans HFZ.out) 0; have u1 := Joins.unfrozen_of_block ((hbd.block _ Hfs.out).trans HFZ.out) 1)
  refine bodyPost_ret (v := .agg #[.int .i64 1, .int .i64 10000]) (by simp [results, Try.results62, go_sem, *]) rfl ⟨by rw [E.out]; rfl, ?_⟩
  exact ((bnext HFB.out hbd).setCell (by show w.heap.size ≤ w.heap.size + 1 + 1; omega) _).setCell (by show w.heap.size ≤ w.heap.size + 1 + 1; omega) _
theorem holds_6_ft (v : Value) (b : Bl) (l1 h1 l2 h2 l3 h3 l4 h4 l5 h5 : Int) (w : World) (hB : Blk w v b) (_hF : Fine b) (_hs : 0 ≤ b.slot ∧ b.slot ≤ 20) (_hw : WishIn ⟨(l1, h1), (l2, h2), (l3, h3), (l4, h4), (l5, h5), true⟩) (ho : b.isOpen = false) :
    Calls Try.prog 62 #[v, .agg #[.int .i64 l1, .int .i64 h1, .int .i64 l2, .int .i64 h2, .int .i64 l3, .int .i64 h3, .int .i64 l4, .int .i64 h4, .int .i64 l5, .int .i64 h5, .bool true], .int .i64 6] w (SpanP (holdsOf b ⟨(l1, h1), (l2, h2), (l3, h3), (l4, h4), (l5, h5), true⟩ 6) w) := by
  obtain ⟨a1, n1, c1, a2, n2, c2, a3, n3, c3, rfl, k1, k2, k3⟩ := hB
  rw [ho]
  have HB := Lib.hid (show Blk w (.agg #[.int .i64 b.tab, .slice a1 n1 c1, .int .i64 b.height, .slice a2 n2 c2, .slice a3 n3 c3, .int .i64 b.slot, .bool b.isOpen]) b from ⟨a1, n1, c1, a2, n2, c2, a3, n3, c3, rfl, k1, k2, k3⟩)
  rw [ho] at HB
  clear k1 k2 k3
  have E := Lib.hid (show holdsOf b ⟨(l1, h1), (l2, h2), (l3, h3), (l4, h4), (l5, h5), true⟩ 6 = every by simp [holdsOf, ho])
  generalize holdsOf b ⟨(l1, h1), (l2, h2), (l3, h3), (l4, h4), (l5, h5), true⟩ 6 = R at *
  clear HB
  go_enter Try.func62, Try.ntmps62
  have FB : Below w.heap.size w (((w.alloc (.cells #[.int .i64 b.tab, .slice a1 n1 c1, .int .i64 b.height, .slice a2 n2 c2, .slice a3 n3 c3, .int .i64 b.slot, .bool false] 118)).alloc (.cells #[.int .i64 l1, .int .i64 h1, .int .i64 l2, .int .i64 h2, .int .i64 l3, .int .i64 h3, .int .i64 l4, .int .i64 h4, .int .i64 l5, .int .i64 h5, .bool true] 110)).alloc (.cells #[.int .i64 0, .int .i64 0] 62)) := (by repeat (first | exact Below.refl _ _ | assumption | apply Below.drew | (refine balloc ?_ _)))
  have FZ : (((w.alloc (.cells #[.int .i64 b.tab, .slice a1 n1 c1, .int .i64 b.height, .slice a2 n2 c2, .slice a3 n3 c3, .int .i64 b.slot, .bool false] 118)).alloc (.cells #[.int .i64 l1, .int .i64 h1, .int .i64 l2, .int .i64 h2, .int .i64 l3, .int .i64 h3, .int .i64 l4, .int .i64 h4, .int .i64 l5, .int .i64 h5, .bool true] 110)).alloc (.cells #[.int .i64 0, .int .i64 0] 62)).heap[w.heap.size + 1 + 1]? = some (.cells #[.int .i64 0, .int .i64 0] 62 (0, 0)) := blk_new (by simp)
  have fs : w.heap.size + 1 + 1 < (((w.alloc (.cells #[.int .i64 b.tab, .slice a1 n1 c1, .int .i64 b.height, .slice a2 n2 c2, .slice a3 n3 c3, .int .i64 b.slot, .bool false] 118)).alloc (.cells #[.int .i64 l1, .int .i64 h1, .int .i64 l2, .int .i64 h2, .int .i64 l3, .int .i64 h3, .int .i64 l4, .int .i64 h4, .int .i64 l5, .int .i64 h5, .bool true] 110)).alloc (.cells #[.int .i64 0, .int .i64 0] 62)).heap.size := by simp
  have HFB := Lib.hid FB; have HFZ := Lib.hid FZ; have Hfs := Lib.hid fs
  clear FB FZ fs
  go_wp2_with ((with_reducible refine (every_any _).mono ?_); rintro e wd ⟨rfl, hbd⟩; have z0 := Joins.cell_of_block ((hbd.block _ Hfs.out).trans HFZ.out) 0; have z1 := Joins.cell_of_block ((hbd.block _ Hfs.out).trans HFZ.out) 1; have u0 := Joins.unfrozen_of_block ((hbd.block _ Hfs.out).trans HFZ.out) 0; have u1 := Joins.unfrozen_of_block ((hbd.block _ Hfs.out).trans HFZ.out) 1)
  refine bodyPost_ret (v := .agg #[.int .i64 1, .int .i64 10000]) (by simp [results, Try.results62, go_sem, *]) rfl ⟨by rw [E.out]; rfl, ?_⟩
  exact ((bnext HFB.out hbd).setCell (by show w.heap.size ≤ w.heap.size + 1 + 1; omega) _).setCell (by show w.heap.size ≤ w.heap.size + 1 + 1; omega) _
theorem holds_5_tf (v : Value) (b : Bl) (l1 h1 l2 h2 l3 h3 l4 h4 l5 h5 : Int) (w : World) (hB : Blk w v b) (_hF : Fine b) (_hs : 0 ≤ b.slot ∧ b.slot ≤ 20) (_hw : WishIn ⟨(l1, h1), (l2, h2), (l3, h3), (l4, h4), (l5, h5), false⟩) (ho : b.isOpen = true) :
    Calls Try.prog 62 #[v, .agg #[.int .i64 l1, .int .i64 h1, .int .i64 l2, .int .i64 h2, .int .i64 l3, .int .i64 h3, .int .i64 l4, .int .i64 h4, .int .i64 l5, .int .i64 h5, .bool false], .int .i64 5] w (SpanP (holdsOf b ⟨(l1, h1), (l2, h2), (l3, h3), (l4, h4), (l5, h5), false⟩ 5) w) := by
  obtain ⟨a1, n1, c1, a2, n2, c2, a3, n3, c3, rfl, k1, k2, k3⟩ := hB
  rw [ho]
  have HB := Lib.hid (show Blk w (.agg #[.int .i64 b.tab, .slice a1 n1 c1, .int .i64 b.height, .slice a2 n2 c2, .slice a3 n3 c3, .int .i64 b.slot, .bool b.isOpen]) b from ⟨a1, n1, c1, a2, n2, c2, a3, n3, c3, rfl, k1, k2, k3⟩)
  rw [ho] at HB
  clear k1 k2 k3
  have E := Lib.hid (show holdsOf b ⟨(l1, h1), (l2, h2), (l3, h3), (l4, h4), (l5, h5), false⟩ 5 = (1, 0) by simp [holdsOf, ho])
  generalize holdsOf b ⟨(l1, h1), (l2, h2), (l3, h3), (l4, h4), (l5, h5), false⟩ 5 = R at *
  clear HB
  go_enter Try.func62, Try.ntmps62
  go_wp2
  exact bodyPost_ret (v := .agg #[.int .i64 1, .int .i64 0]) (by simp [results, Try.results62, go_sem]) rfl ⟨by rw [E.out], balloc (balloc (balloc1 _ _) _) _⟩
theorem holds_5_ft (v : Value) (b : Bl) (l1 h1 l2 h2 l3 h3 l4 h4 l5 h5 : Int) (w : World) (hB : Blk w v b) (_hF : Fine b) (_hs : 0 ≤ b.slot ∧ b.slot ≤ 20) (_hw : WishIn ⟨(l1, h1), (l2, h2), (l3, h3), (l4, h4), (l5, h5), true⟩) (ho : b.isOpen = false) :
    Calls Try.prog 62 #[v, .agg #[.int .i64 l1, .int .i64 h1, .int .i64 l2, .int .i64 h2, .int .i64 l3, .int .i64 h3, .int .i64 l4, .int .i64 h4, .int .i64 l5, .int .i64 h5, .bool true], .int .i64 5] w (SpanP (holdsOf b ⟨(l1, h1), (l2, h2), (l3, h3), (l4, h4), (l5, h5), true⟩ 5) w) := by
  obtain ⟨a1, n1, c1, a2, n2, c2, a3, n3, c3, rfl, k1, k2, k3⟩ := hB
  rw [ho]
  have HB := Lib.hid (show Blk w (.agg #[.int .i64 b.tab, .slice a1 n1 c1, .int .i64 b.height, .slice a2 n2 c2, .slice a3 n3 c3, .int .i64 b.slot, .bool b.isOpen]) b from ⟨a1, n1, c1, a2, n2, c2, a3, n3, c3, rfl, k1, k2, k3⟩)
  rw [ho] at HB
  clear k1 k2 k3
  have E := Lib.hid (show holdsOf b ⟨(l1, h1), (l2, h2), (l3, h3), (l4, h4), (l5, h5), true⟩ 5 = (1, 0) by simp [holdsOf, ho])
  generalize holdsOf b ⟨(l1, h1), (l2, h2), (l3, h3), (l4, h4), (l5, h5), true⟩ 5 = R at *
  clear HB
  go_enter Try.func62, Try.ntmps62
  go_wp2
  exact bodyPost_ret (v := .agg #[.int .i64 1, .int .i64 0]) (by simp [results, Try.results62, go_sem]) rfl ⟨by rw [E.out], balloc (balloc (balloc1 _ _) _) _⟩
end Go.Proofs.Ytolnpbpeifpbjaa
