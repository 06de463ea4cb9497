/- Part of the proof: what the claim leans on. -/
import Derived.Test.YtolnpbpeifpbjaaVAG
set_option maxHeartbeats 16000000
set_option maxRecDepth 100000
set_option linter.unusedSimpArgs false
set_option linter.unusedVariables false
namespace Go.Proofs.Ytolnpbpeifpbjaa
open Go.RowKit
theorem holds_k (v : Value) (b : Bl) (l1 h1 l2 h2 l3 h3 l4 h4 l5 h5 : Int) (wo : Bool) (k : Nat) (hk : k < 9) (hk5 : k ≠ 5) (hk6 : k ≠ 6) (w : World) (hB : Blk w v b) (hF : Fine b) (_hs : 0 ≤ b.slot ∧ b.slot ≤ 20) (hw : WishIn ⟨(l1, h1), (l2, h2), (l3, h3), (l4, h4), (l5, h5), wo⟩) :
    Calls Try.prog 62 #[v, .agg #[.int .i64 l1, .int .i64 h1, .int .i64 l2, .int .i64 h2, .int .i64 l3, .int .i64 h3, .int .i64 l4, .int .i64 h4, .int .i64 l5, .int .i64 h5, .bool wo], .int .i64 k] w (SpanP (holdsOf b ⟨(l1, h1), (l2, h2), (l3, h3), (l4, h4), (l5, h5), wo⟩ k) w) := by
  obtain ⟨a1, n1, c1, a2, n2, c2, a3, n3, c3, rfl, k1, k2, k3⟩ := hB
  have HB := Lib.hid (show Blk w (.agg #[.int .i64 b.tab, .slice a1 n1 c1, .int .i64 b.height, .slice a2 n2 c2, .slice a3 n3 c3, .int .i64 b.slot, .bool b.isOpen]) b from ⟨a1, n1, c1, a2, n2, c2, a3, n3, c3, rfl, k1, k2, k3⟩)
  clear k1 k2 k3
  have E := Lib.hid (show holdsOf b ⟨(l1, h1), (l2, h2), (l3, h3), (l4, h4), (l5, h5), wo⟩ k = amongOf ((meas b).getD k (0, 0)) (targetOf ⟨(l1, h1), (l2, h2), (l3, h3), (l4, h4), (l5, h5), wo⟩ k) by unfold holdsOf; rw [if_neg (by omega), if_neg (by omega)])
  have hm := meas_in hF ((meas b).getD k (0, 0)) (getD_mem _ k (by rw [meas_length]; omega) _)
  have ht := targetOf_in hw k
  generalize holdsOf b ⟨(l1, h1), (l2, h2), (l3, h3), (l4, h4), (l5, h5), wo⟩ k = R at *
  have HF := Lib.hid hF
  clear hF hw
  have z5 : ((k : Int) == 5) = false := by simp; omega
  have z6 : ((k : Int) == 6) = false := by simp; omega
  have z9 : ((k : Int) == 9) = false := by simp; omega
  have zk0 : (0 : Int) ≤ (k : Int) := by omega
  have zk9 : (k : Int) < 9 := by omega
  clear hk5 hk6
  go_enter Try.func62, Try.ntmps62
  go_wp2_with fail
  have fB : Below w.heap.size w (((w.alloc (.cells #[.int .i64 b.tab, .slice a1 n1 c1, .int .i64 b.height, .slice a2 n2 c2, .slice a3 n3 c3, .int .i64 b.slot, .bool b.isOpen] 118)).alloc (.cells #[.int .i64 l1, .int .i64 h1, .int .i64 l2, .int .i64 h2, .int .i64 l3, .int .i64 h3, .int .i64 l4, .int .i64 h4, .int .i64 l5, .int .i64 h5, .bool wo] 110)).alloc (.cells #[.int .i64 0, .int .i64 0] 62)) := (by repeat (first | exact Below.refl _ _ | assumption | apply Below.drew | (refine balloc ?_ _)))
  have fX : (((w.alloc (.cells #[.int .i64 b.tab, .slice a1 n1 c1, .int .i64 b.height, .slice a2 n2 c2, .slice a3 n3 c3, .int .i64 b.slot, .bool b.isOpen] 118)).alloc (.cells #[.int .i64 l1, .int .i64 h1, .int .i64 l2, .int .i64 h2, .int .i64 l3, .int .i64 h3, .int .i64 l4, .int .i64 h4, .int .i64 l5, .int .i64 h5, .bool wo] 110)).alloc (.cells #[.int .i64 0, .int .i64 0] 62)).heap[w.heap.size]? = some (.cells #[.int .i64 b.tab, .slice a1 n1 c1, .int .i64 b.height, .slice a2 n2 c2, .slice a3 n3 c3, .int .i64 b.slot, .bool b.isOpen] 118 (0, 0)) := blk_past (blk_past (blk_new rfl))
  have fY : (((w.alloc (.cells #[.int .i64 b.tab, .slice a1 n1 c1, .int .i64 b.height, .slice a2 n2 c2, .slice a3 n3 c3, .int .i64 b.slot, .bool b.isOpen] 118)).alloc (.cells #[.int .i64 l1, .int .i64 h1, .int .i64 l2, .int .i64 h2, .int .i64 l3, .int .i64 h3, .int .i64 l4, .int .i64 h4, .int .i64 l5, .int .i64 h5, .bool wo] 110)).alloc (.cells #[.int .i64 0, .int .i64 0] 62)).heap[w.heap.size + 1]? = some (.cells #[.int .i64 l1, .int .i64 h1, .int .i64 l2, .int .i64 h2, .int .i64 l3, .int .i64 h3, .int .i64 l4, .int .i64 h4, .int .i64 l5, .int .i64 h5, .bool wo] 110 (0, 0)) := blk_past (blk_new (by simp))
  have fZ : (((w.alloc (.cells #[.int .i64 b.tab, .slice a1 n1 c1, .int .i64 b.height, .slice a2 n2 c2, .slice a3 n3 c3, .int .i64 b.slot, .bool b.isOpen] 118)).alloc (.cells #[.int .i64 l1, .int .i64 h1, .int .i64 l2, .int .i64 h2, .int .i64 l3, .int .i64 h3, .int .i64 l4, .int .i64 h4, .int .i64 l5, .int .i64 h5, .bool wo] 110)).alloc (.cells #[.int .i64 0, .int .i64 0] 62)).heap[w.heap.size + 1 + 1]? = some (.cells #[.int .i64 0, .int .i64 0] 62 (0, 0)) := blk_new (by simp)
  have fs : w.heap.size + 1 + 1 < (((w.alloc (.cells #[.int .i64 b.tab, .slice a1 n1 c1, .int .i64 b.height, .slice a2 n2 c2, .slice a3 n3 c3, .int .i64 b.slot, .bool b.isOpen] 118)).alloc (.cells #[.int .i64 l1, .int .i64 h1, .int .i64 l2, .int .i64 h2, .int .i64 l3, .int .i64 h3, .int .i64 l4, .int .i64 h4, .int .i64 l5, .int .i64 h5, .bool wo] 110)).alloc (.cells #[.int .i64 0, .int .i64 0] 62)).heap.size := by simp
  generalize (((w.alloc (.cells #[.int .i64 b.tab, .slice a1 n1 c1, .int .i64 b.height, .slice a2 n2 c2, .slice a3 n3 c3, .int .i64 b.slot, .bool b.isOpen] 118)).alloc (.cells #[.int .i64 l1, .int .i64 h1, .int .i64 l2, .int .i64 h2, .int .i64 l3, .int .i64 h3, .int .i64 l4, .int .i64 h4, .int .i64 l5, .int .i64 h5, .bool wo] 110)).alloc (.cells #[.int .i64 0, .int .i64 0] 62)) = W at fB fX fY fZ fs ⊢
  have X := Joins.cell_of_block fX
  have Y := Joins.cell_of_block fY
  have FZ := Lib.hid fZ; have FB := Lib.hid fB; have FY := Lib.hid fY
  clear fX fY fZ fB
  have Tg : Hid (∀ w, Calls Try.prog 89 #[.agg #[.int .i64 l1, .int .i64 h1, .int .i64 l2, .int .i64 h2, .int .i64 l3, .int .i64 h3, .int .i64 l4, .int .i64 h4, .int .i64 l5, .int .i64 h5, .bool wo], .int .i64 k] w fun e w' => e = .returned (.agg #[.int .i64 (targetOf ⟨(l1, h1), (l2, h2), (l3, h3), (l4, h4), (l5, h5), wo⟩ k).1, .int .i64 (targetOf ⟨(l1, h1), (l2, h2), (l3, h3), (l4, h4), (l5, h5), wo⟩ k).2]) ∧ Below w.heap.size w w') := Lib.hid (fun w => target_any l1 h1 l2 h2 l3 h3 l4 h4 l5 h5 wo k hk w)
  generalize targetOf ⟨(l1, h1), (l2, h2), (l3, h3), (l4, h4), (l5, h5), wo⟩ k = tg at *
  generalize hmm : (meas b).getD k (0, 0) = mm at *
  obtain ⟨tl, th⟩ := tg
  obtain ⟨ml, mc⟩ := mm
  simp only at hm ht Tg
  have HMM := Lib.hid hmm
  clear hmm
  go_wp2_with fail
  go_region_with (first
      | (go_at_call 66; (with_reducible refine (measures_blk _ b _ (HB.out.below (FB.out.trans ((show Below W.heap.size W _ from (by repeat (first | exact Below.refl _ _ | assumption | apply Below.drew | (refine balloc ?_ _)))).mono FB.out.size)) (Nat.le_refl _)) HF.out).mono ?_); rintro e wa ⟨g, cap, rfl, hp, hx⟩; rw [meas_length] at hp ⊢; have hba : Below W.heap.size W wa := bnext (by repeat (first | exact Below.refl _ _ | assumption | apply Below.drew | (refine balloc ?_ _))) hx; clear hx; obtain ⟨g', o', e', lg, q⟩ := hp.at (by rw [meas_length]; omega); simp only [Option.some.injEq, Addr.mk.injEq, and_true] at e'; obtain ⟨rfl, rfl⟩ := e'; have q0 := (q k (by rw [meas_length]; omega)).1; have q1 := (q k (by rw [meas_length]; omega)).2; rw [HMM.out] at q0 q1; simp only [Nat.zero_add] at q0 q1; clear q hp X; have Ya := Joins.cell_of_block ((hba.block _ (by omega)).trans FY.out))
      | (go_at_call 89; (with_reducible refine (Tg.out _).mono ?_); rintro e wb ⟨rfl, hx⟩; have hbb : Below W.heap.size W wb := bnext (by repeat (first | exact Below.refl _ _ | assumption | apply Below.drew | (refine balloc ?_ _))) hx; have r0 := (hx.cell (p := ⟨g, k * 2, none⟩) lg).trans q0; have r1 := (hx.cell (p := ⟨g, k * 2 + 1, none⟩) lg).trans q1; clear hx)
      | (go_at_call 88; (with_reducible refine (among_any ml mc tl th _ (by omega) (by omega) (by omega) (by omega) (by omega) (by omega) (by omega) (by omega)).mono ?_); rintro e wd ⟨rfl, hx⟩; have hbd : Below W.heap.size W wd := bnext (by repeat (first | exact Below.refl _ _ | assumption | apply Below.drew | (refine balloc ?_ _))) hx; clear hx q0 q1 r0 r1 Ya Y; have z0 := Joins.cell_of_block ((hbd.block _ fs).trans FZ.out) 0; have z1 := Joins.cell_of_block ((hbd.block _ fs).trans FZ.out) 1; have u0 := Joins.unfrozen_of_block ((hbd.block _ fs).trans FZ.out) 0; have u1 := Joins.unfrozen_of_block ((hbd.block _ fs).trans FZ.out) 1))
  all_goals
    go_wp2
    refine bodyPost_ret (v := .agg #[.int .i64 (amongOf (ml, mc) (tl, th)).1, .int .i64 (amongOf (ml, mc) (tl, th)).2]) (by simp [results, Try.results62, go_sem, *]) rfl ⟨by rw [E.out], ?_⟩
    exact ((bnext FB.out hbd).setCell (by show w.heap.size ≤ w.heap.size + 1 + 1; omega) _).setCell (by show w.heap.size ≤ w.heap.size + 1 + 1; omega) _
theorem holds_5_ff (v : Value) (b : Bl) (l1 h1 l2 h2 l3 h3 l4 h4 l5 h5 : Int) (w : World) (hB : Blk w v b) (hF : Fine b) (_hs : 0 ≤ b.slot ∧ b.slot ≤ 20) (hw : WishIn ⟨(l1, h1), (l2, h2), (l3, h3), (l4, h4), (l5, h5), false⟩) (ho : b.isOpen = false) :
    Calls Try.prog 62 #[v, .agg #[.int .i64 l1, .int .i64 h1, .int .i64 l2, .int .i64 h2, .int .i64 l3, .int .i64 h3, .int .i64 l4, .int .i64 h4, .int .i64 l5, .int .i64 h5, .bool false], .int .i64 5] w (SpanP (holdsOf b ⟨(l1, h1), (l2, h2), (l3, h3), (l4, h4), (l5, h5), false⟩ 5) w) := by
  obtain ⟨a1, n1, c1, a2, n2, c2, a3, n3, c3, rfl, k1, k2, k3⟩ := hB
  rw [ho]
  have HB := Lib.hid (show Blk w (.agg #[.int .i64 b.tab, .slice a1 n1 c1, .int .i64 b.height, .slice a2 n2 c2, .slice a3 n3 c3, .int .i64 b.slot, .bool b.isOpen]) b from ⟨a1, n1, c1, a2, n2, c2, a3, n3, c3, rfl, k1, k2, k3⟩)
  rw [ho] at HB
  clear k1 k2 k3
  have E := Lib.hid (show holdsOf b ⟨(l1, h1), (l2, h2), (l3, h3), (l4, h4), (l5, h5), false⟩ 5 = amongOf ((meas b).getD 5 (0, 0)) (targetOf ⟨(l1, h1), (l2, h2), (l3, h3), (l4, h4), (l5, h5), false⟩ 5) by simp [holdsOf, ho])
  have hm := meas_in hF ((meas b).getD 5 (0, 0)) (getD_mem _ 5 (by rw [meas_length]; omega) _)
  have ht := targetOf_in hw 5
  generalize holdsOf b ⟨(l1, h1), (l2, h2), (l3, h3), (l4, h4), (l5, h5), false⟩ 5 = R at *
  have HF := Lib.hid hF
  clear hF hw
  go_enter Try.func62, Try.ntmps62
  go_wp2_with fail
  have fB : Below w.heap.size w (((w.alloc (.cells #[.int .i64 b.tab, .slice a1 n1 c1, .int .i64 b.height, .slice a2 n2 c2, .slice a3 n3 c3, .int .i64 b.slot, .bool false] 118)).alloc (.cells #[.int .i64 l1, .int .i64 h1, .int .i64 l2, .int .i64 h2, .int .i64 l3, .int .i64 h3, .int .i64 l4, .int .i64 h4, .int .i64 l5, .int .i64 h5, .bool false] 110)).alloc (.cells #[.int .i64 0, .int .i64 0] 62)) := (by repeat (first | exact Below.refl _ _ | assumption | apply Below.drew | (refine balloc ?_ _)))
  have fX : (((w.alloc (.cells #[.int .i64 b.tab, .slice a1 n1 c1, .int .i64 b.height, .slice a2 n2 c2, .slice a3 n3 c3, .int .i64 b.slot, .bool false] 118)).alloc (.cells #[.int .i64 l1, .int .i64 h1, .int .i64 l2, .int .i64 h2, .int .i64 l3, .int .i64 h3, .int .i64 l4, .int .i64 h4, .int .i64 l5, .int .i64 h5, .bool false] 110)).alloc (.cells #[.int .i64 0, .int .i64 0] 62)).heap[w.heap.size]? = some (.cells #[.int .i64 b.tab, .slice a1 n1 c1, .int .i64 b.height, .slice a2 n2 c2, .slice a3 n3 c3, .int .i64 b.slot, .bool false] 118 (0, 0)) := blk_past (blk_past (blk_new rfl))
  have fY : (((w.alloc (.cells #[.int .i64 b.tab, .slice a1 n1 c1, .int .i64 b.height, .slice a2 n2 c2, .slice a3 n3 c3, .int .i64 b.slot, .bool false] 118)).alloc (.cells #[.int .i64 l1, .int .i64 h1, .int .i64 l2, .int .i64 h2, .int .i64 l3, .int .i64 h3, .int .i64 l4, .int .i64 h4, .int .i64 l5, .int .i64 h5, .bool false] 110)).alloc (.cells #[.int .i64 0, .int .i64 0] 62)).heap[w.heap.size + 1]? = some (.cells #[.int .i64 l1, .int .i64 h1, .int .i64 l2, .int .i64 h2, .int .i64 l3, .int .i64 h3, .int .i64 l4, .int .i64 h4, .int .i64 l5, .int .i64 h5, .bool false] 110 (0, 0)) := blk_past (blk_new (by simp))
  have fZ : (((w.alloc (.cells #[.int .i64 b.tab, .slice a1 n1 c1, .int .i64 b.height, .slice a2 n2 c2, .slice a3 n3 c3, .int .i64 b.slot, .bool false] 118)).alloc (.cells #[.int .i64 l1, .int .i64 h1, .int .i64 l2, .int .i64 h2, .int .i64 l3, .int .i64 h3, .int .i64 l4, .int .i64 h4, .int .i64 l5, .int .i64 h5, .bool false] 110)).alloc (.cells #[.int .i64 0, .int .i64 0] 62)).heap[w.heap.size + 1 + 1]? = some (.cells #[.int .i64 0, .int .i64 0] 62 (0, 0)) := blk_new (by simp)
  have fs : w.heap.size + 1 + 1 < (((w.alloc (.cells #[.int .i64 b.tab, .slice a1 n1 c1, .int .i64 b.height, .slice a2 n2 c2, .slice a3 n3 c3, .int .i64 b.slot, .bool false] 118)).alloc (.cells #[.int .i64 l1, .int .i64 h1, .int .i64 l2, .int .i64 h2, .int .i64 l3, .int .i64 h3, .int .i64 l4, .int .i64 h4, .int .i64 l5, .int .i64 h5, .bool false] 110)).alloc (.cells #[.int .i64 0, .int .i64 0] 62)).heap.size := by simp
  generalize (((w.alloc (.cells #[.int .i64 b.tab, .slice a1 n1 c1, .int .i64 b.height, .slice a2 n2 c2, .slice a3 n3 c3, .int .i64 b.slot, .bool false] 118)).alloc (.cells #[.int .i64 l1, .int .i64 h1, .int .i64 l2, .int .i64 h2, .int .i64 l3, .int .i64 h3, .int .i64 l4, .int .i64 h4, .int .i64 l5, .int .i64 h5, .bool false] 110)).alloc (.cells #[.int .i64 0, .int .i64 0] 62)) = W at fB fX fY fZ fs ⊢
  have X := Joins.cell_of_block fX
  have Y := Joins.cell_of_block fY
  have FZ := Lib.hid fZ; have FB := Lib.hid fB; have FY := Lib.hid fY
  clear fX fY fZ fB
  have Tg : Hid (∀ w, Calls Try.prog 89 #[.agg #[.int .i64 l1, .int .i64 h1, .int .i64 l2, .int .i64 h2, .int .i64 l3, .int .i64 h3, .int .i64 l4, .int .i64 h4, .int .i64 l5, .int .i64 h5, .bool false], .int .i64 5] w fun e w' => e = .returned (.agg #[.int .i64 (targetOf ⟨(l1, h1), (l2, h2), (l3, h3), (l4, h4), (l5, h5), false⟩ 5).1, .int .i64 (targetOf ⟨(l1, h1), (l2, h2), (l3, h3), (l4, h4), (l5, h5), false⟩ 5).2]) ∧ Below w.heap.size w w') := Lib.hid (fun w => target_any l1 h1 l2 h2 l3 h3 l4 h4 l5 h5 false 5 (by omega) w)
  generalize targetOf ⟨(l1, h1), (l2, h2), (l3, h3), (l4, h4), (l5, h5), false⟩ 5 = tg at *
  generalize hmm : (meas b).getD 5 (0, 0) = mm at *
  obtain ⟨tl, th⟩ := tg
  obtain ⟨ml, mc⟩ := mm
  simp only at hm ht Tg
  have HMM := Lib.hid hmm
  clear hmm
  go_wp2_with fail
  go_region_with (first
      | (go_at_call 66; (with_reducible refine (measures_blk _ b _ (HB.out.below (FB.out.trans ((show Below W.heap.size W _ from (by repeat (first | exact Below.refl _ _ | assumption | apply Below.drew | (refine balloc ?_ _)))).mono FB.out.size)) (Nat.le_refl _)) HF.out).mono ?_); rintro e wa ⟨g, cap, rfl, hp, hx⟩; rw [meas_length] at hp ⊢; have hba : Below W.heap.size W wa := bnext (by repeat (first | exact Below.refl _ _ | assumption | apply Below.drew | (refine balloc ?_ _))) hx; clear hx; obtain ⟨g', o', e', lg, q⟩ := hp.at (by rw [meas_length]; omega); simp only [Option.some.injEq, Addr.mk.injEq, and_true] at e'; obtain ⟨rfl, rfl⟩ := e'; have q0 := (q 5 (by rw [meas_length]; omega)).1; have q1 := (q 5 (by rw [meas_length]; omega)).2; rw [HMM.out] at q0 q1; simp only [Nat.zero_add, Nat.reduceMul, Nat.reduceAdd] at q0 q1; clear q hp X; have Ya := Joins.cell_of_block ((hba.block _ (by omega)).trans FY.out))
      | (go_at_call 89; (with_reducible refine (Tg.out _).mono ?_); rintro e wb ⟨rfl, hx⟩; have hbb : Below W.heap.size W wb := bnext (by repeat (first | exact Below.refl _ _ | assumption | apply Below.drew | (refine balloc ?_ _))) hx; have r0 := (hx.cell (p := ⟨g, 10, none⟩) lg).trans q0; have r1 := (hx.cell (p := ⟨g, 11, none⟩) lg).trans q1; clear hx)
      | (go_at_call 88; (with_reducible refine (among_any ml mc tl th _ (by omega) (by omega) (by omega) (by omega) (by omega) (by omega) (by omega) (by omega)).mono ?_); rintro e wd ⟨rfl, hx⟩; have hbd : Below W.heap.size W wd := bnext (by repeat (first | exact Below.refl _ _ | assumption | apply Below.drew | (refine balloc ?_ _))) hx; clear hx q0 q1 r0 r1 Ya Y; have z0 := Joins.cell_of_block ((hbd.block _ fs).trans FZ.out) 0; have z1 := Joins.cell_of_block ((hbd.block _ fs).trans FZ.out) 1; have u0 := Joins.unfrozen_of_block ((hbd.block _ fs).trans FZ.out) 0; have u1 := Joins.unfrozen_of_block ((hbd.block _ fs).trans FZ.out) 1))
  all_goals
    go_wp2
    refine bodyPost_ret (v := .agg #[.int .i64 (amongOf (ml, mc) (tl, th)).1, .int .i64 (amongOf (ml, mc) (tl, th)).2]) (by simp [results, Try.results62, go_sem, *]) rfl ⟨by rw [E.out], ?_⟩
    exact ((bnext FB.out hbd).setCell (by show w.heap.size ≤ w.heap.size + 1 + 1; omega) _).setCell (by show w.heap.size ≤ w.heap.size + 1 + 1; omega) _
theorem holds_6_ff (v : Value) (b : Bl) (l1 h1 l2 h2 l3 h3 l4 h4 l5 h5 : Int) (w : World) (hB : Blk w v b) (hF : Fine b) (_hs : 0 ≤ b.slot ∧ b.slot ≤ 20) (hw : WishIn ⟨(l1, h1), (l2, h2), (l3, h3), (l4, h4), (l5, h5), false⟩) (ho : b.isOpen = false) :
    Calls Try.prog 62 #[v, .agg #[.int .i64 l1, .int .i64 h1, .int .i64 l2, .int .i64 h2, .int .i64 l3, .int .i64 h3, .int .i64 l4, .int .i64 h4, .int .i64 l5, .int .i64 h5, .bool false], .int .i64 6] w (SpanP (holdsOf b ⟨(l1, h1), (l2, h2), (l3, h3), (l4, h4), (l5, h5), false⟩ 6) w) := by
  obtain ⟨a1, n1, c1, a2, n2, c2, a3, n3, c3, rfl, k1, k2, k3⟩ := hB
  rw [ho]
  have HB := Lib.hid (show Blk w (.agg #[.int .i64 b.tab, .slice a1 n1 c1, .int .i64 b.height, .slice a2 n2 c2, .slice a3 n3 c3, .int .i64 b.slot, .bool b.isOpen]) b from ⟨a1, n1, c1, a2, n2, c2, a3, n3, c3, rfl, k1, k2, k3⟩)
  rw [ho] at HB
  clear k1 k2 k3
  have E := Lib.hid (show holdsOf b ⟨(l1, h1), (l2, h2), (l3, h3), (l4, h4), (l5, h5), false⟩ 6 = amongOf ((meas b).getD 6 (0, 0)) (targetOf ⟨(l1, h1), (l2, h2), (l3, h3), (l4, h4), (l5, h5), false⟩ 6) by simp [holdsOf, ho])
  have hm := meas_in hF ((meas b).getD 6 (0, 0)) (getD_mem _ 6 (by rw [meas_length]; omega) _)
  have ht := targetOf_in hw 6
  generalize holdsOf b ⟨(l1, h1), (l2, h2), (l3, h3), (l4, h4), (l5, h5), false⟩ 6 = R at *
  have HF := Lib.hid hF
  clear hF hw
  go_enter Try.func62, Try.ntmps62
  go_wp2_with fail
  have fB : Below w.heap.size w (((w.alloc (.cells #[.int .i64 b.tab, .slice a1 n1 c1, .int .i64 b.height, .slice a2 n2 c2, .slice a3 n3 c3, .int .i64 b.slot, .bool false] 118)).alloc (.cells #[.int .i64 l1, .int .i64 h1, .int .i64 l2, .int .i64 h2, .int .i64 l3, .int .i64 h3, .int .i64 l4, .int .i64 h4, .int .i64 l5, .int .i64 h5, .bool false] 110)).alloc (.cells #[.int .i64 0, .int .i64 0] 62)) := (by repeat (first | exact Below.refl _ _ | assumption | apply Below.drew | (refine balloc ?_ _)))
  have fX : (((w.alloc (.cells #[.int .i64 b.tab, .slice a1 n1 c1, .int .i64 b.height, .slice a2 n2 c2, .slice a3 n3 c3, .int .i64 b.slot, .bool false] 118)).alloc (.cells #[.int .i64 l1, .int .i64 h1, .int .i64 l2, .int .i64 h2, .int .i64 l3, .int .i64 h3, .int .i64 l4, .int .i64 h4, .int .i64 l5, .int .i64 h5, .bool false] 110)).alloc (.cells #[.int .i64 0, .int .i64 0] 62)).heap[w.heap.size]? = some (.cells #[.int .i64 b.tab, .slice a1 n1 c1, .int .i64 b.height, .slice a2 n2 c2, .slice a3 n3 c3, .int .i64 b.slot, .bool false] 118 (0, 0)) := blk_past (blk_past (blk_new rfl))
  have fY : (((w.alloc (.cells #[.int .i64 b.tab, .slice a1 n1 c1, .int .i64 b.height, .slice a2 n2 c2, .slice a3 n3 c3, .int .i64 b.slot, .bool false] 118)).alloc (.cells #[.int .i64 l1, .int .i64 h1, .int .i64 l2, .int .i64 h2, .int .i64 l3, .int .i64 h3, .int .i64 l4, .int .i64 h4, .int .i64 l5, .int .i64 h5, .bool false] 110)).alloc (.cells #[.int .i64 0, .int .i64 0] 62)).heap[w.heap.size + 1]? = some (.cells #[.int .i64 l1, .int .i64 h1, .int .i64 l2, .int .i64 h2, .int .i64 l3, .int .i64 h3, .int .i64 l4, .int .i64 h4, .int .i64 l5, .int .i64 h5, .bool false] 110 (0, 0)) := blk_past (blk_new (by simp))
  have fZ : (((w.alloc (.cells #[.int .i64 b.tab, .slice a1 n1 c1, .int .i64 b.height, .slice a2 n2 c2, .slice a3 n3 c3, .int .i64 b.slot, .bool false] 118)).alloc (.cells #[.int .i64 l1, .int .i64 h1, .int .i64 l2, .int .i64 h2, .int .i64 l3, .int .i64 h3, .int .i64 l4, .int .i64 h4, .int .i64 l5, .int .i64 h5, .bool false] 110)).alloc (.cells #[.int .i64 0, .int .i64 0] 62)).heap[w.heap.size + 1 + 1]? = some (.cells #[.int .i64 0, .int .i64 0] 62 (0, 0)) := blk_new (by simp)
  have fs : w.heap.size + 1 + 1 < (((w.alloc (.cells #[.int .i64 b.tab, .slice a1 n1 c1, .int .i64 b.height, .slice a2 n2 c2, .slice a3 n3 c3, .int .i64 b.slot, .bool false] 118)).alloc (.cells #[.int .i64 l1, .int .i64 h1, .int .i64 l2, .int .i64 h2, .int .i64 l3, .int .i64 h3, .int .i64 l4, .int .i64 h4, .int .i64 l5, .int .i64 h5, .bool false] 110)).alloc (.cells #[.int .i64 0, .int .i64 0] 62)).heap.size := by simp
  generalize (((w.alloc (.cells #[.int .i64 b.tab, .slice a1 n1 c1, .int .i64 b.height, .slice a2 n2 c2, .slice a3 n3 c3, .int .i64 b.slot, .bool false] 118)).alloc (.cells #[.int .i64 l1, .int .i64 h1, .int .i64 l2, .int .i64 h2, .int .i64 l3, .int .i64 h3, .int .i64 l4, .int .i64 h4, .int .i64 l5, .int .i64 h5, .bool false] 110)).alloc (.cells #[.int .i64 0, .int .i64 0] 62)) = W at fB fX fY fZ fs ⊢
  have X := Joins.cell_of_block fX
  have Y := Joins.cell_of_block fY
  have FZ := Lib.hid fZ; have FB := Lib.hid fB; have FY := Lib.hid fY
  clear fX fY fZ fB
  have Tg : Hid (∀ w, Calls Try.prog 89 #[.agg #[.int .i64 l1, .int .i64 h1, .int .i64 l2, .int .i64 h2, .int .i64 l3, .int .i64 h3, .int .i64 l4, .int .i64 h4, .int .i64 l5, .int .i64 h5, .bool false], .int .i64 6] w fun e w' => e = .returned (.agg #[.int .i64 (targetOf ⟨(l1, h1), (l2, h2), (l3, h3), (l4, h4), (l5, h5), false⟩ 6).1, .int .i64 (targetOf ⟨(l1, h1), (l2, h2), (l3, h3), (l4, h4), (l5, h5), false⟩ 6).2]) ∧ Below w.heap.size w w') := Lib.hid (fun w => target_any l1 h1 l2 h2 l3 h3 l4 h4 l5 h5 false 6 (by omega) w)
  generalize targetOf ⟨(l1, h1), (l2, h2), (l3, h3), (l4, h4), (l5, h5), false⟩ 6 = tg at *
  generalize hmm : (meas b).getD 6 (0, 0) = mm at *
  obtain ⟨tl, th⟩ := tg
  obtain ⟨ml, mc⟩ := mm
  simp only at hm ht Tg
  have HMM := Lib.hid hmm
  clear hmm
  go_wp2_with fail
  go_region_with (first
      | (go_at_call 66; (with_reducible refine (measures_blk _ b _ (HB.out.below (FB.out.trans ((show Below W.heap.size W _ from (by repeat (first | exact Below.refl _ _ | assumption | apply Below.drew | (refine balloc ?_ _)))).mono FB.out.size)) (Nat.le_refl _)) HF.out).mono ?_); rintro e wa ⟨g, cap, rfl, hp, hx⟩; rw [meas_length] at hp ⊢; have hba : Below W.heap.size W wa := bnext (by repeat (first | exact Below.refl _ _ | assumption | apply Below.drew | (refine balloc ?_ _))) hx; clear hx; obtain ⟨g', o', e', lg, q⟩ := hp.at (by rw [meas_length]; omega); simp only [Option.some.injEq, Addr.mk.injEq, and_true] at e'; obtain ⟨rfl, rfl⟩ := e'; have q0 := (q 6 (by rw [meas_length]; omega)).1; have q1 := (q 6 (by rw [meas_length]; omega)).2; rw [HMM.out] at q0 q1; simp only [Nat.zero_add, Nat.reduceMul, Nat.reduceAdd] at q0 q1; clear q hp X; have Ya := Joins.cell_of_block ((hba.block _ (by omega)).trans FY.out))
      | (go_at_call 89; (with_reducible refine (Tg.out _).mono ?_); rintro e wb ⟨rfl, hx⟩; have hbb : Below W.heap.size W wb := bnext (by repeat (first | exact Below.refl _ _ | assumption | apply Below.drew | (refine balloc ?_ _))) hx; have r0 := (hx.cell (p := ⟨g, 12, none⟩) lg).trans q0; have r1 := (hx.cell (p := ⟨g, 13, none⟩) lg).trans q1; clear hx)
      | (go_at_call 88; (with_reducible refine (among_any ml mc tl th _ (by omega) (by omega) (by omega) (by omega) (by omega) (by omega) (by omega) (by omega)).mono ?_); rintro e wd ⟨rfl, hx⟩; have hbd : Below W.heap.size W wd := bnext (by repeat (first | exact Below.refl _ _ | assumption | apply Below.drew | (refine balloc ?_ _))) hx; clear hx q0 q1 r0 r1 Ya Y; have z0 := Joins.cell_of_block ((hbd.block _ fs).trans FZ.out) 0; have z1 := Joins.cell_of_block ((hbd.block _ fs).trans FZ.out) 1; have u0 := Joins.unfrozen_of_block ((hbd.block _ fs).trans FZ.out) 0; have u1 := Joins.unfrozen_of_block ((hbd.block _ fs).trans FZ.out) 1))
  all_goals
    go_wp2
    refine bodyPost_ret (v := .agg #[.int .i64 (amongOf (ml, mc) (tl, th)).1, .int .i64 (amongOf (ml, mc) (tl, th)).2]) (by simp [results, Try.results62, go_sem, *]) rfl ⟨by rw [E.out], ?_⟩
    exact ((bnext FB.out hbd).setCell (by show w.heap.size ≤ w.heap.size + 1 + 1; omega) _).setCell (by show w.heap.size ≤ w.heap.size + 1 + 1; omega) _
open Go.RowKit
theorem holds_all (v : Value) (b : Bl) (l1 h1 l2 h2 l3 h3 l4 h4 l5 h5 : Int) (wo : Bool) (k : Nat) (hk : k < 10) (w : World) (hB : Blk w v b) (hF : Fine b) (hs : 0 ≤ b.slot ∧ b.slot ≤ 20) (hw : WishIn ⟨(l1, h1), (l2, h2), (l3, h3), (l4, h4), (l5, h5), wo⟩) :
    Calls Try.prog 62 #[v, .agg #[.int .i64 l1, .int .i64 h1, .int .i64 l2, .int .i64 h2, .int .i64 l3, .int .i64 h3, .int .i64 l4, .int .i64 h4, .int .i64 l5, .int .i64 h5, .bool wo], .int .i64 k] w (SpanP (holdsOf b ⟨(l1, h1), (l2, h2), (l3, h3), (l4, h4), (l5, h5), wo⟩ k) w) := by
  by_cases k9 : k = 9
  · subst k9; exact holds_9 v b l1 h1 l2 h2 l3 h3 l4 h4 l5 h5 wo w hB hF hs hw
  by_cases k5 : k = 5
  · subst k5
    cases ho : b.isOpen <;> cases wo
    · exact holds_5_ff v b l1 h1 l2 h2 l3 h3 l4 h4 l5 h5 w hB hF hs hw ho
    · exact holds_5_ft v b l1 h1 l2 h2 l3 h3 l4 h4 l5 h5 w hB hF hs hw ho
    · exact holds_5_tf v b l1 h1 l2 h2 l3 h3 l4 h4 l5 h5 w hB hF hs hw ho
    · exact holds_5_tt v b l1 h1 l2 h2 l3 h3 l4 h4 l5 h5 w hB hF hs hw ho
  by_cases k6 : k = 6
  · subst k6
    cases ho : b.isOpen <;> cases wo
    · exact holds_6_ff v b l1 h1 l2 h2 l3 h3 l4 h4 l5 h5 w hB hF hs hw ho
    · exact holds_6_ft v b l1 h1 l2 h2 l3 h3 l4 h4 l5 h5 w hB hF hs hw ho
    · exact holds_6_tf v b l1 h1 l2 h2 l3 h3 l4 h4 l5 h5 w hB hF hs hw ho
    · exact holds_6_tt v b l1 h1 l2 h2 l3 h3 l4 h4 l5 h5 w hB hF hs hw ho
  exact holds_k v b l1 h1 l2 h2 l3 h3 l4 h4 l5 h5 wo k (by omega) k5 k6 w hB hF hs hw
theorem amongOf_in {m : Int × Int} {s : Sp} (h1 : -10000 ≤ m.1) (h2 : m.1 ≤ 10000) (h3 : 0 < m.2) (h5 : -10000 ≤ s.1) (h6 : s.1 ≤ 10000) (h7 : -10000 ≤ s.2) (h8 : s.2 ≤ 10000) :
    1 ≤ (amongOf m s).1 ∧ (amongOf m s).1 ≤ 1000000000 ∧ -1000000000 ≤ (amongOf m s).2 ∧ (amongOf m s).2 ≤ 10000 := by
  have a := down_abs (-(1000 * (m.1 - s.2))) m.2 h3 (by omega) (by omega)
  have c := down_abs (1000 * (m.1 - s.1)) m.2 h3 (by omega) (by omega)
  simp only [amongOf, both, every, upI, downI]
  generalize -(1000 * (m.1 - s.2)) / m.2 = x at *
  generalize 1000 * (m.1 - s.1) / m.2 = y at *
  omega
theorem holdsOf_in {b : Bl} {w : Wi} (hF : Fine b) (hs : 0 ≤ b.slot ∧ b.slot ≤ 20) (hw : WishIn w) (k : Nat) (hk : k < 10) :
    1 ≤ (holdsOf b w k).1 ∧ (holdsOf b w k).1 ≤ 1000000000 ∧ -1000000000 ≤ (holdsOf b w k).2 ∧ (holdsOf b w k).2 ≤ 10000 := by
  unfold holdsOf
  split
  · simp only [both, every]; omega
  · split
    · split
      · simp only; omega
      · simp only [every]; omega
    · have hm := meas_in hF ((meas b).getD k (0, 0)) (getD_mem _ k (by rw [meas_length]; omega) _)
      have ht := targetOf_in hw k
      exact amongOf_in (by omega) (by omega) (by omega) (by omega) (by omega) (by omega) (by omega)
def badOf (b : Bl) (w : Wi) (s : Sp) (k : Nat) : Option (Int × Int) :=
  let h := holdsOf b w k
  let c := if h.1 ≤ s.1 ∧ s.1 ≤ h.2 then h.2 + 1 else s.1
  if c ≤ s.2 then some ((k : Int), c) else none
def closeTo (b : Bl) (w : Wi) (s : Sp) (n : Nat) : List (Int × Int) := (List.range n).filterMap (badOf b w s)
def closeL (b : Bl) (w : Wi) (s : Sp) : List (Int × Int) := closeTo b w s 10
theorem closeTo_succ (b : Bl) (w : Wi) (s : Sp) (n : Nat) : closeTo b w s (n + 1) = closeTo b w s n ++ (badOf b w s n).toList := by
  simp only [closeTo, List.range_succ, List.filterMap_append, List.filterMap_cons, List.filterMap_nil]
  cases badOf b w s n <;> rfl
theorem closeTo_le (b : Bl) (w : Wi) (s : Sp) (n : Nat) : (closeTo b w s n).length ≤ n := by
  have := List.length_filterMap_le (badOf b w s) (List.range n)
  simpa [closeTo] using this
theorem wish_in {w : Wi} (h : wishErr w = 0) : WishIn w := by
  unfold wishErr at h
  split at h
  · rename_i hh
    simp only [isSpan, Bool.and_eq_true, decide_eq_true_eq] at hh
    obtain ⟨⟨a1, _⟩, ⟨a2, _⟩, ⟨a3, _⟩, ⟨a4, _⟩, ⟨a5, _⟩⟩ := hh
    have b1 := within_all a1; have b2 := within_all a2; have b3 := within_all a3; have b4 := within_all a4; have b5 := within_all a5
    simp only [List.mem_cons, List.not_mem_nil, or_false, forall_eq_or_imp, forall_eq] at b1 b2 b3 b4 b5
    intro s hs
    simp only [List.mem_cons, List.not_mem_nil, or_false] at hs
    rcases hs with rfl | rfl | rfl | rfl | rfl <;> omega
  · exact absurd h (by decide)
theorem wished_split {b : Bl} {w : Wi} {cs : List Sp} (h : wishedErr b w cs = 0) : checkErr b = 0 ∧ wishErr w = 0 ∧ ∀ s ∈ cs, isSpan s 1 10000 = true := by
  unfold wishedErr at h
  by_cases h1 : checkErr b = 0
  · rw [if_pos h1] at h
    by_cases h2 : wishErr w = 0
    · rw [if_pos h2] at h
      exact ⟨h1, h2, (checked_split h).2⟩
    · rw [if_neg h2] at h; exact absurd h h2
  · rw [if_neg h1] at h; exact absurd h h1
theorem Try.info137x : (Try.prog.info? 137).map (fun i => (i.zero, i.size, i.bytes)) = some (some (.agg #[.int .i64 0, .int .i64 0]), 2, 16) := by kernel_rfl
theorem owns_pp_any {w : World} {base e n : Nat} {v : Value} {xs : List (Int × Int)} (h : w.ownsRow base e 2 v n (xs.flatMap fun x => [Value.int .i64 x.1, Value.int .i64 x.2])) : ∃ a c, v = .slice a n c ∧ Pp w a n c xs := by
  rcases Joins.ownsRow_forms h with ⟨rfl, rfl⟩ | ⟨g, cap, rfl⟩
  · have := h.1
    rw [flat_length] at this
    have : xs = [] := List.length_eq_zero_iff.1 (by omega)
    subst this
    exact ⟨none, 0, rfl, pp_nil w⟩
  · exact ⟨some ⟨g, 0, none⟩, cap, rfl, owns_pp h⟩
theorem close_any (v : Value) (b : Bl) (l1 h1 l2 h2 l3 h3 l4 h4 l5 h5 : Int) (wo : Bool) (lo hi : Int) (w : World) (hB : Blk w v b) :
    Calls Try.prog 38 #[v, .agg #[.int .i64 l1, .int .i64 h1, .int .i64 l2, .int .i64 h2, .int .i64 l3, .int .i64 h3, .int .i64 l4, .int .i64 h4, .int .i64 l5, .int .i64 h5, .bool wo], .agg #[.int .i64 lo, .int .i64 hi]] w (SpansErr (if wishedErr b ⟨(l1, h1), (l2, h2), (l3, h3), (l4, h4), (l5, h5), wo⟩ [(lo, hi)] = 0 then closeL b ⟨(l1, h1), (l2, h2), (l3, h3), (l4, h4), (l5, h5), wo⟩ (lo, hi) else []) (wishedErr b ⟨(l1, h1), (l2, h2), (l3, h3), (l4, h4), (l5, h5), wo⟩ [(lo, hi)]) w) := by
  obtain ⟨a1, n1, c1, a2, n2, c2, a3, n3, c3, rfl, h1, h2, h3⟩ := hB
  have HB := Lib.hid (show Blk w _ b from ⟨a1, n1, c1, a2, n2, c2, a3, n3, c3, rfl, h1, h2, h3⟩)
  clear h1 h2 h3
  generalize hL : (if wishedErr b ⟨(l1, h1), (l2, h2), (l3, h3), (l4, h4), (l5, h5), wo⟩ [(lo, hi)] = 0 then closeL b ⟨(l1, h1), (l2, h2), (l3, h3), (l4, h4), (l5, h5), wo⟩ (lo, hi) else []) = L
  generalize hE : wishedErr b ⟨(l1, h1), (l2, h2), (l3, h3), (l4, h4), (l5, h5), wo⟩ [(lo, hi)] = er at hL ⊢
  have HL := Lib.hid hL; have HE := Lib.hid hE
  clear hL hE
  go_enter Try.func38, Try.ntmps38
  go_wp2_with fail
  have fB : Below w.heap.size w ((((w.alloc (.cells #[.int .i64 b.tab, .slice a1 n1 c1, .int .i64 b.height, .slice a2 n2 c2, .slice a3 n3 c3, .int .i64 b.slot, .bool b.isOpen] 41)).alloc (.cells #[.int .i64 l1, .int .i64 h1, .int .i64 l2, .int .i64 h2, .int .i64 l3, .int .i64 h3, .int .i64 l4, .int .i64 h4, .int .i64 l5, .int .i64 h5, .bool wo] 110)).alloc (.cells #[.int .i64 lo, .int .i64 hi] 62)).alloc (.cells #[.int .i64 lo, .int .i64 hi] 62)) := (by repeat (first | exact Below.refl _ _ | assumption | apply Below.drew | (refine balloc ?_ _)))
  have fX : ((((w.alloc (.cells #[.int .i64 b.tab, .slice a1 n1 c1, .int .i64 b.height, .slice a2 n2 c2, .slice a3 n3 c3, .int .i64 b.slot, .bool b.isOpen] 41)).alloc (.cells #[.int .i64 l1, .int .i64 h1, .int .i64 l2, .int .i64 h2, .int .i64 l3, .int .i64 h3, .int .i64 l4, .int .i64 h4, .int .i64 l5, .int .i64 h5, .bool wo] 110)).alloc (.cells #[.int .i64 lo, .int .i64 hi] 62)).alloc (.cells #[.int .i64 lo, .int .i64 hi] 62)).heap[w.heap.size]? = some (.cells #[.int .i64 b.tab, .slice a1 n1 c1, .int .i64 b.height, .slice a2 n2 c2, .slice a3 n3 c3, .int .i64 b.slot, .bool b.isOpen] 41 (0, 0)) := blk_past (blk_past (blk_past (blk_new rfl)))
  have fY : ((((w.alloc (.cells #[.int .i64 b.tab, .slice a1 n1 c1, .int .i64 b.height, .slice a2 n2 c2, .slice a3 n3 c3, .int .i64 b.slot, .bool b.isOpen] 41)).alloc (.cells #[.int .i64 l1, .int .i64 h1, .int .i64 l2, .int .i64 h2, .int .i64 l3, .int .i64 h3, .int .i64 l4, .int .i64 h4, .int .i64 l5, .int .i64 h5, .bool wo] 110)).alloc (.cells #[.int .i64 lo, .int .i64 hi] 62)).alloc (.cells #[.int .i64 lo, .int .i64 hi] 62)).heap[w.heap.size + 1]? = some (.cells #[.int .i64 l1, .int .i64 h1, .int .i64 l2, .int .i64 h2, .int .i64 l3, .int .i64 h3, .int .i64 l4, .int .i64 h4, .int .i64 l5, .int .i64 h5, .bool wo] 110 (0, 0)) := blk_past (blk_past (blk_new (by simp)))
  have fS : ((((w.alloc (.cells #[.int .i64 b.tab, .slice a1 n1 c1, .int .i64 b.height, .slice a2 n2 c2, .slice a3 n3 c3, .int .i64 b.slot, .bool b.isOpen] 41)).alloc (.cells #[.int .i64 l1, .int .i64 h1, .int .i64 l2, .int .i64 h2, .int .i64 l3, .int .i64 h3, .int .i64 l4, .int .i64 h4, .int .i64 l5, .int .i64 h5, .bool wo] 110)).alloc (.cells #[.int .i64 lo, .int .i64 hi] 62)).alloc (.cells #[.int .i64 lo, .int .i64 hi] 62)).heap[w.heap.size + 1 + 1]? = some (.cells #[.int .i64 lo, .int .i64 hi] 62 (0, 0)) := blk_past (blk_new (by simp))
  have fp : Pp ((((w.alloc (.cells #[.int .i64 b.tab, .slice a1 n1 c1, .int .i64 b.height, .slice a2 n2 c2, .slice a3 n3 c3, .int .i64 b.slot, .bool b.isOpen] 41)).alloc (.cells #[.int .i64 l1, .int .i64 h1, .int .i64 l2, .int .i64 h2, .int .i64 l3, .int .i64 h3, .int .i64 l4, .int .i64 h4, .int .i64 l5, .int .i64 h5, .bool wo] 110)).alloc (.cells #[.int .i64 lo, .int .i64 hi] 62)).alloc (.cells #[.int .i64 lo, .int .i64 hi] 62)) (some ⟨w.heap.size + 1 + 1 + 1, 0, none⟩) 1 1 [(lo, hi)] := pp_one _ _ _ _ _ (by simp)
  have fs : w.heap.size + 1 + 1 + 1 < ((((w.alloc (.cells #[.int .i64 b.tab, .slice a1 n1 c1, .int .i64 b.height, .slice a2 n2 c2, .slice a3 n3 c3, .int .i64 b.slot, .bool b.isOpen] 41)).alloc (.cells #[.int .i64 l1, .int .i64 h1, .int .i64 l2, .int .i64 h2, .int .i64 l3, .int .i64 h3, .int .i64 l4, .int .i64 h4, .int .i64 l5, .int .i64 h5, .bool wo] 110)).alloc (.cells #[.int .i64 lo, .int .i64 hi] 62)).alloc (.cells #[.int .i64 lo, .int .i64 hi] 62)).heap.size := by simp
  generalize ((((w.alloc (.cells #[.int .i64 b.tab, .slice a1 n1 c1, .int .i64 b.height, .slice a2 n2 c2, .slice a3 n3 c3, .int .i64 b.slot, .bool b.isOpen] 41)).alloc (.cells #[.int .i64 l1, .int .i64 h1, .int .i64 l2, .int .i64 h2, .int .i64 l3, .int .i64 h3, .int .i64 l4, .int .i64 h4, .int .i64 l5, .int .i64 h5, .bool wo] 110)).alloc (.cells #[.int .i64 lo, .int .i64 hi] 62)).alloc (.cells #[.int .i64 lo, .int .i64 hi] 62)) = W at fB fX fY fS fp fs ⊢
  have FB := Lib.hid fB; have FX := Lib.hid fX; have FY := Lib.hid fY; have FS := Lib.hid fS; have FP := Lib.hid fp
  clear fB fX fY fS fp
  refine (wished_any _ b l1 h1 l2 h2 l3 h3 l4 h4 l5 h5 wo _ _ _ [(lo, hi)] _ (HB.out.below FB.out (Nat.le_refl _)) FP.out).mono ?_
  rintro e w1 ⟨rfl, hb1⟩
  rw [HE.out]
  by_cases z : er = 0
  case neg =>
    have z' : (er != 0) = true := by rw [bne_iff_ne]; exact z
    have HZ := Lib.hid z
    clear z
    go_wp2
    go_ret2
    refine ⟨none, 0, 0, rfl, ?_, bnext FB.out hb1⟩
    rw [← HL.out, if_neg HZ.out]; exact pp_nil _
  subst z
  obtain ⟨hck, hwk, hsp⟩ := wished_split HE.out
  have hs1 := span_bounds (hsp (lo, hi) (by simp))
  simp only at hs1
  obtain ⟨hF, -, hsl, -, -, -⟩ := fine_of_check hck
  have HF := Lib.hid hF; have HS := Lib.hid hsl; have HW := Lib.hid (wish_in hwk)
  have HL' := Lib.hid (show L = closeTo b ⟨(l1, h1), (l2, h2), (l3, h3), (l4, h4), (l5, h5), wo⟩ (lo, hi) 10 by rw [← HL.out, if_pos rfl]; rfl)
  have GX := Lib.hid ((hb1.block _ (by omega)).trans FX.out); have GY := Lib.hid ((hb1.block _ (by omega)).trans FY.out); have GS := Lib.hid ((hb1.block _ (by omega)).trans FS.out)
  have gs : w.heap.size + 1 + 1 + 1 < w1.heap.size := Nat.lt_of_lt_of_le fs hb1.size
  have GB := Lib.hid (bnext FB.out hb1)
  clear hck hwk hsp hF hsl HE HL FX FY FS FP FB hb1 fs
  obtain ⟨i0, hi0, hz0, hz1, hz2⟩ := info_parts Try.info137x
  go_wp2
  go_loopw [6, 9, 10, 11, 20] (fun v _ _ _ i wr => ∃ k : Nat, k ≤ 10 ∧ i = .int .i64 k ∧ wr.ownsRow w1.heap.size 137 2 v (closeTo b ⟨(l1, h1), (l2, h2), (l3, h3), (l4, h4), (l5, h5), wo⟩ (lo, hi) k).length ((closeTo b ⟨(l1, h1), (l2, h2), (l3, h3), (l4, h4), (l5, h5), wo⟩ (lo, hi) k).flatMap fun x => [Value.int .i64 x.1, Value.int .i64 x.2]) ∧ Below w1.heap.size w1 wr) (fun _ _ _ _ i _ => 10 - (intOf i).toNat)
  case atStart => exact ⟨0, Nat.zero_le _, rfl, World.ownsRow_nil _ _ _ _, Below.refl _ _⟩
  case round =>
    obtain ⟨k, hk, rfl, hown, hbel⟩ := hrel
    have Hown := Lib.hid hown
    clear hown
    by_cases hlt : k < 10
    · have X := Joins.cell_of_block ((hbel.block _ (by omega)).trans GX.out)
      have Y := Joins.cell_of_block ((hbel.block _ (by omega)).trans GY.out)
      have hin := holdsOf_in HF.out HS.out HW.out k hlt
      have CL := Lib.hid (holds_all _ b l1 h1 l2 h2 l3 h3 l4 h4 l5 h5 wo k hlt wr (HB.out.below (GB.out.trans (hbel.mono GB.out.size)) (Nat.le_refl _)) HF.out HS.out HW.out)
      have hsucc := closeTo_succ b ⟨(l1, h1), (l2, h2), (l3, h3), (l4, h4), (l5, h5), wo⟩ (lo, hi) k
      have hle := closeTo_le b ⟨(l1, h1), (l2, h2), (l3, h3), (l4, h4), (l5, h5), wo⟩ (lo, hi) k
      have hbad : badOf b ⟨(l1, h1), (l2, h2), (l3, h3), (l4, h4), (l5, h5), wo⟩ (lo, hi) k = (let c := if (holdsOf b ⟨(l1, h1), (l2, h2), (l3, h3), (l4, h4), (l5, h5), wo⟩ k).1 ≤ lo ∧ lo ≤ (holdsOf b ⟨(l1, h1), (l2, h2), (l3, h3), (l4, h4), (l5, h5), wo⟩ k).2 then (holdsOf b ⟨(l1, h1), (l2, h2), (l3, h3), (l4, h4), (l5, h5), wo⟩ k).2 + 1 else lo; if c ≤ hi then some ((k : Int), c) else none) := rfl
      generalize holdsOf b ⟨(l1, h1), (l2, h2), (l3, h3), (l4, h4), (l5, h5), wo⟩ k = s at *
      obtain ⟨s1, s2⟩ := s
      simp only at hin hbad
      have HSucc := Lib.hid hsucc; have HBad := Lib.hid hbad
      clear hsucc hbad
      go_wp2_with fail
      refine (CL.out).mono ?_
      rintro e w2 ⟨rfl, hx⟩
      have hb2 := hbel.trans (hx.mono hbel.size)
      have S := Joins.cell_of_block ((hb2.block _ (by omega)).trans GS.out)
      have hown2 := Lib.hid (own_below Hown.out hx)
      have gs2 : w.heap.size + 1 + 1 < w2.heap.size := by have := hb2.size; omega
      clear X Y hx CL
      simp only
      by_cases t1 : s1 ≤ lo
      · by_cases t2 : lo ≤ s2
        · by_cases t3 : s2 + 1 ≤ hi
          · skip
            have B := Lib.hid (show badOf b ⟨(l1, h1), (l2, h2), (l3, h3), (l4, h4), (l5, h5), wo⟩ (lo, hi) k = some ((k : Int), s2 + 1) by
                                               rw [HBad.out]
                                               have ht : (if s1 ≤ lo ∧ lo ≤ s2 then s2 + 1 else lo) = s2 + 1 := by rw [if_pos ⟨t1, t2⟩]
                                               simp only [ht]; rw [if_pos t3])
            go_wp2_with (at_builtin; refine wpList_append_lies _ rfl (.tmp 47) (.tmp 51) 111 rfl w1.heap.size 137 i0 _ 2 16 Try.underlying111 hi0 hz0 hz1 hz2 rfl (by omega) _ (closeTo b ⟨(l1, h1), (l2, h2), (l3, h3), (l4, h4), (l5, h5), wo⟩ (lo, hi) k).length _ rfl ((hown2.out.alloc _).alloc _) ⟨w2.heap.size + 1, 0, none⟩ 1 1 [.int .i64 k, .int .i64 (s2 + 1)] rfl rfl (World.news_of_block (fr := (0, 0)) (t := 137) (cs := #[.int .i64 k, .int .i64 (s2 + 1)]) (blk_new (by simp))) (by simp [Value.oneCell']) (by omega) (by unfold maxLen; omega) (by omega) (by have := hb2.size; simp; omega) _ rfl ?_; intro g3 cap3 w3 hown3 hgrow3 _ hlt3)
            have hb3 : Below w1.heap.size w1 w3 := (((hb2.alloc hb2.size _).alloc (by have := hb2.size; simp; omega) _).grown hgrow3 (by have := hb2.size; simp; omega) (own_ge hown2.out))
            clear hgrow3 S
            go_wp2
            go_roundw
            case rel => exact ⟨k + 1, by omega, by go_num, by rw [HSucc.out, B.out]; simpa using hown3, hb3⟩
            case measure => simp [intOf]; omega
          · skip
            have B := Lib.hid (show badOf b ⟨(l1, h1), (l2, h2), (l3, h3), (l4, h4), (l5, h5), wo⟩ (lo, hi) k = none by
                                               rw [HBad.out]
                                               have ht : (if s1 ≤ lo ∧ lo ≤ s2 then s2 + 1 else lo) = s2 + 1 := by rw [if_pos ⟨t1, t2⟩]
                                               simp only [ht]; rw [if_neg t3])
            go_wp2
            go_roundw
            case rel => exact ⟨k + 1, by omega, by go_num, by rw [HSucc.out, B.out]; simpa using (hown2.out.alloc _), hb2.alloc hb2.size _⟩
            case measure => simp [intOf]; omega
        · by_cases t3 : lo ≤ hi
          · skip
            have B := Lib.hid (show badOf b ⟨(l1, h1), (l2, h2), (l3, h3), (l4, h4), (l5, h5), wo⟩ (lo, hi) k = some ((k : Int), lo) by
                                               rw [HBad.out]
                                               have ht : (if s1 ≤ lo ∧ lo ≤ s2 then s2 + 1 else lo) = lo := by rw [if_neg (by omega)]
                                               simp only [ht]; rw [if_pos t3])
            go_wp2_with (at_builtin; refine wpList_append_lies _ rfl (.tmp 47) (.tmp 51) 111 rfl w1.heap.size 137 i0 _ 2 16 Try.underlying111 hi0 hz0 hz1 hz2 rfl (by omega) _ (closeTo b ⟨(l1, h1), (l2, h2), (l3, h3), (l4, h4), (l5, h5), wo⟩ (lo, hi) k).length _ rfl ((hown2.out.alloc _).alloc _) ⟨w2.heap.size + 1, 0, none⟩ 1 1 [.int .i64 k, .int .i64 (lo)] rfl rfl (World.news_of_block (fr := (0, 0)) (t := 137) (cs := #[.int .i64 k, .int .i64 (lo)]) (blk_new (by simp))) (by simp [Value.oneCell']) (by omega) (by unfold maxLen; omega) (by omega) (by have := hb2.size; simp; omega) _ rfl ?_; intro g3 cap3 w3 hown3 hgrow3 _ hlt3)
            have hb3 : Below w1.heap.size w1 w3 := (((hb2.alloc hb2.size _).alloc (by have := hb2.size; simp; omega) _).grown hgrow3 (by have := hb2.size; simp; omega) (own_ge hown2.out))
            clear hgrow3 S
            go_wp2
            go_roundw
            case rel => exact ⟨k + 1, by omega, by go_num, by rw [HSucc.out, B.out]; simpa using hown3, hb3⟩
            case measure => simp [intOf]; omega
          · exact absurd hs1.2.1 t3
      · by_cases t3 : lo ≤ hi
        · skip
          have B := Lib.hid (show badOf b ⟨(l1, h1), (l2, h2), (l3, h3), (l4, h4), (l5, h5), wo⟩ (lo, hi) k = some ((k : Int), lo) by
                                             rw [HBad.out]
                                             have ht : (if s1 ≤ lo ∧ lo ≤ s2 then s2 + 1 else lo) = lo := by rw [if_neg (by omega)]
                                             simp only [ht]; rw [if_pos t3])
          go_wp2_with (at_builtin; refine wpList_append_lies _ rfl (.tmp 47) (.tmp 51) 111 rfl w1.heap.size 137 i0 _ 2 16 Try.underlying111 hi0 hz0 hz1 hz2 rfl (by omega) _ (closeTo b ⟨(l1, h1), (l2, h2), (l3, h3), (l4, h4), (l5, h5), wo⟩ (lo, hi) k).length _ rfl ((hown2.out.alloc _).alloc _) ⟨w2.heap.size + 1, 0, none⟩ 1 1 [.int .i64 k, .int .i64 (lo)] rfl rfl (World.news_of_block (fr := (0, 0)) (t := 137) (cs := #[.int .i64 k, .int .i64 (lo)]) (blk_new (by simp))) (by simp [Value.oneCell']) (by omega) (by unfold maxLen; omega) (by omega) (by have := hb2.size; simp; omega) _ rfl ?_; intro g3 cap3 w3 hown3 hgrow3 _ hlt3)
          have hb3 : Below w1.heap.size w1 w3 := (((hb2.alloc hb2.size _).alloc (by have := hb2.size; simp; omega) _).grown hgrow3 (by have := hb2.size; simp; omega) (own_ge hown2.out))
          clear hgrow3 S
          go_wp2
          go_roundw
          case rel => exact ⟨k + 1, by omega, by go_num, by rw [HSucc.out, B.out]; simpa using hown3, hb3⟩
          case measure => simp [intOf]; omega
        · exact absurd hs1.2.1 t3
    · obtain rfl : k = 10 := by omega
      obtain ⟨a, c, rfl, hpp⟩ := owns_pp_any Hown.out
      go_wp2
      go_ret2
      refine ⟨a, _, c, rfl, ?_, GB.out.trans (hbel.mono GB.out.size)⟩
      rw [HL'.out]
      exact hpp
open Go.RowKit
open Go.RowKit
open Go.RowKit
end Go.Proofs.Ytolnpbpeifpbjaa
