/- Part of the proof: what the claim leans on. -/
import Derived.Test.YtolnpbpeifpbjaaVAD
import Derived.Shelf.Small.Bits
import Derived.Shelf.Small.Wraps
import Derived.Shelf.Strconv.Itoa0
import Derived.Shelf.Sort.Plain
import Derived.Shelf.Slices.Turned
import Derived.Ground.Names2Prog
import Derived.Shelf.Slices.SearchI
import Derived.Shelf.Slices.In.SortNone
import Derived.Test.YtolnpbpeifpbjaaProg
set_option maxHeartbeats 8000000
set_option maxRecDepth 100000
set_option linter.unusedSimpArgs false
set_option linter.unusedVariables false
namespace Go.Proofs.Ytolnpbpeifpbjaa
open Go.RowKit
def playL (b d : Bl) (s t : Sp) : List Sp := List.zipWith (fun p q => (1000 * (p - q) - s.2 - t.2, 1000 * (p - q) - s.1 - t.1)) b.panels d.panels
theorem pp_two (w : World) (x y u v : Int) (t : TypeId) (g : Nat) (hg : g = w.heap.size) : Pp (w.alloc (.cells #[.int .i64 x, .int .i64 y, .int .i64 u, .int .i64 v] t)) (some ⟨g, 0, none⟩) 2 2 [(x, y), (u, v)] := by
  subst hg
  refine ⟨rfl, Nat.le_refl _, by unfold maxLen; omega, by simp, .inr ⟨_, _, rfl, by simp, fun i hi => ?_⟩⟩
  have : i = 0 ∨ i = 1 ∨ i = 2 ∨ i = 3 := by simp at hi; omega
  rcases this with rfl | rfl | rfl | rfl <;> simp
theorem checked_split {bs : List Bl} {cs : List Sp} (h : checkedErr bs cs = 0) : (∀ b ∈ bs, checkErr b = 0) ∧ (∀ s ∈ cs, isSpan s 1 10000 = true) := by
  induction bs with
  | nil =>
    refine ⟨by simp, fun s hs => ?_⟩
    cases e : isSpan s 1 10000 with
    | true => rfl
    | false =>
      have : cs.any (fun s => !isSpan s 1 10000) = true := List.any_eq_true.2 ⟨s, hs, by simp [e]⟩
      simp [checkedErr, this] at h
  | cons b r ih =>
    simp only [checkedErr] at h
    by_cases e : checkErr b = 0
    · rw [if_pos e] at h
      exact ⟨by intro x hx; rcases List.mem_cons.1 hx with rfl | hx; exact e; exact (ih h).1 x hx, (ih h).2⟩
    · rw [if_neg e] at h; exact absurd h e
theorem span_bounds {s : Sp} (h : isSpan s 1 10000 = true) : 1 ≤ s.1 ∧ s.1 ≤ s.2 ∧ s.2 ≤ 10000 := by
  simp only [isSpan, Bool.and_eq_true, decide_eq_true_eq] at h
  have h1 := within_all h.1 s.1 (by simp); have h2 := within_all h.1 s.2 (by simp)
  omega
theorem play_any (v u : Value) (b d : Bl) (x1 y1 x2 y2 : Int) (w : World) (hB : Blk w v b) (hD : Blk w u d) :
    Calls Try.prog 20 #[v, u, .agg #[.int .i64 x1, .int .i64 y1], .agg #[.int .i64 x2, .int .i64 y2]] w (SpansErr (if checkedErr [b, d] [(x1, y1), (x2, y2)] = 0 then playL b d (x1, y1) (x2, y2) else []) (checkedErr [b, d] [(x1, y1), (x2, y2)]) w) := by
  obtain ⟨ba1, bn1, bc1, ba2, bn2, bc2, ba3, bn3, bc3, rfl, h1, h2, h3⟩ := hB
  obtain ⟨da1, dn1, dc1, da2, dn2, dc2, da3, dn3, dc3, rfl, k1, k2, k3⟩ := hD
  generalize hL : (if checkedErr [b, d] [(x1, y1), (x2, y2)] = 0 then playL b d (x1, y1) (x2, y2) else []) = L
  generalize hE : checkedErr [b, d] [(x1, y1), (x2, y2)] = er at hL ⊢
  have HL := Lib.hid hL; have HE := Lib.hid hE
  have H1 := Lib.hid h1; have H2 := Lib.hid h2; have H3 := Lib.hid h3; have K1 := Lib.hid k1; have K2 := Lib.hid k2; have K3 := Lib.hid k3
  clear hL hE h1 h2 h3 k1 k2 k3
  go_enter Try.func20, Try.ntmps20
  go_wp2_with fail
  have fB : Below w.heap.size w ((((((w.alloc (.cells #[.int .i64 b.tab, .slice ba1 bn1 bc1, .int .i64 b.height, .slice ba2 bn2 bc2, .slice ba3 bn3 bc3, .int .i64 b.slot, .bool b.isOpen] 41)).alloc (.cells #[.int .i64 d.tab, .slice da1 dn1 dc1, .int .i64 d.height, .slice da2 dn2 dc2, .slice da3 dn3 dc3, .int .i64 d.slot, .bool d.isOpen] 41)).alloc (.cells #[.int .i64 x1, .int .i64 y1] 62)).alloc (.cells #[.int .i64 x2, .int .i64 y2] 62)).alloc (.cells #[.int .i64 b.tab, .slice ba1 bn1 bc1, .int .i64 b.height, .slice ba2 bn2 bc2, .slice ba3 bn3 bc3, .int .i64 b.slot, .bool b.isOpen, .int .i64 d.tab, .slice da1 dn1 dc1, .int .i64 d.height, .slice da2 dn2 dc2, .slice da3 dn3 dc3, .int .i64 d.slot, .bool d.isOpen] 41)).alloc (.cells #[.int .i64 x1, .int .i64 y1, .int .i64 x2, .int .i64 y2] 62)) := (by repeat (first | exact Below.refl _ _ | assumption | apply Below.drew | (refine balloc ?_ _)))
  have fX : ((((((w.alloc (.cells #[.int .i64 b.tab, .slice ba1 bn1 bc1, .int .i64 b.height, .slice ba2 bn2 bc2, .slice ba3 bn3 bc3, .int .i64 b.slot, .bool b.isOpen] 41)).alloc (.cells #[.int .i64 d.tab, .slice da1 dn1 dc1, .int .i64 d.height, .slice da2 dn2 dc2, .slice da3 dn3 dc3, .int .i64 d.slot, .bool d.isOpen] 41)).alloc (.cells #[.int .i64 x1, .int .i64 y1] 62)).alloc (.cells #[.int .i64 x2, .int .i64 y2] 62)).alloc (.cells #[.int .i64 b.tab, .slice ba1 bn1 bc1, .int .i64 b.height, .slice ba2 bn2 bc2, .slice ba3 bn3 bc3, .int .i64 b.slot, .bool b.isOpen, .int .i64 d.tab, .slice da1 dn1 dc1, .int .i64 d.height, .slice da2 dn2 dc2, .slice da3 dn3 dc3, .int .i64 d.slot, .bool d.isOpen] 41)).alloc (.cells #[.int .i64 x1, .int .i64 y1, .int .i64 x2, .int .i64 y2] 62)).heap[w.heap.size]? = some (.cells #[.int .i64 b.tab, .slice ba1 bn1 bc1, .int .i64 b.height, .slice ba2 bn2 bc2, .slice ba3 bn3 bc3, .int .i64 b.slot, .bool b.isOpen] 41 (0, 0)) := blk_past (blk_past (blk_past (blk_past (blk_past (blk_new rfl)))))
  have fY : ((((((w.alloc (.cells #[.int .i64 b.tab, .slice ba1 bn1 bc1, .int .i64 b.height, .slice ba2 bn2 bc2, .slice ba3 bn3 bc3, .int .i64 b.slot, .bool b.isOpen] 41)).alloc (.cells #[.int .i64 d.tab, .slice da1 dn1 dc1, .int .i64 d.height, .slice da2 dn2 dc2, .slice da3 dn3 dc3, .int .i64 d.slot, .bool d.isOpen] 41)).alloc (.cells #[.int .i64 x1, .int .i64 y1] 62)).alloc (.cells #[.int .i64 x2, .int .i64 y2] 62)).alloc (.cells #[.int .i64 b.tab, .slice ba1 bn1 bc1, .int .i64 b.height, .slice ba2 bn2 bc2, .slice ba3 bn3 bc3, .int .i64 b.slot, .bool b.isOpen, .int .i64 d.tab, .slice da1 dn1 dc1, .int .i64 d.height, .slice da2 dn2 dc2, .slice da3 dn3 dc3, .int .i64 d.slot, .bool d.isOpen] 41)).alloc (.cells #[.int .i64 x1, .int .i64 y1, .int .i64 x2, .int .i64 y2] 62)).heap[w.heap.size + 1]? = some (.cells #[.int .i64 d.tab, .slice da1 dn1 dc1, .int .i64 d.height, .slice da2 dn2 dc2, .slice da3 dn3 dc3, .int .i64 d.slot, .bool d.isOpen] 41 (0, 0)) := blk_past (blk_past (blk_past (blk_past (blk_new (by simp)))))
  have fS : ((((((w.alloc (.cells #[.int .i64 b.tab, .slice ba1 bn1 bc1, .int .i64 b.height, .slice ba2 bn2 bc2, .slice ba3 bn3 bc3, .int .i64 b.slot, .bool b.isOpen] 41)).alloc (.cells #[.int .i64 d.tab, .slice da1 dn1 dc1, .int .i64 d.height, .slice da2 dn2 dc2, .slice da3 dn3 dc3, .int .i64 d.slot, .bool d.isOpen] 41)).alloc (.cells #[.int .i64 x1, .int .i64 y1] 62)).alloc (.cells #[.int .i64 x2, .int .i64 y2] 62)).alloc (.cells #[.int .i64 b.tab, .slice ba1 bn1 bc1, .int .i64 b.height, .slice ba2 bn2 bc2, .slice ba3 bn3 bc3, .int .i64 b.slot, .bool b.isOpen, .int .i64 d.tab, .slice da1 dn1 dc1, .int .i64 d.height, .slice da2 dn2 dc2, .slice da3 dn3 dc3, .int .i64 d.slot, .bool d.isOpen] 41)).alloc (.cells #[.int .i64 x1, .int .i64 y1, .int .i64 x2, .int .i64 y2] 62)).heap[w.heap.size + 1 + 1]? = some (.cells #[.int .i64 x1, .int .i64 y1] 62 (0, 0)) := blk_past (blk_past (blk_past (blk_new (by simp))))
  have fT : ((((((w.alloc (.cells #[.int .i64 b.tab, .slice ba1 bn1 bc1, .int .i64 b.height, .slice ba2 bn2 bc2, .slice ba3 bn3 bc3, .int .i64 b.slot, .bool b.isOpen] 41)).alloc (.cells #[.int .i64 d.tab, .slice da1 dn1 dc1, .int .i64 d.height, .slice da2 dn2 dc2, .slice da3 dn3 dc3, .int .i64 d.slot, .bool d.isOpen] 41)).alloc (.cells #[.int .i64 x1, .int .i64 y1] 62)).alloc (.cells #[.int .i64 x2, .int .i64 y2] 62)).alloc (.cells #[.int .i64 b.tab, .slice ba1 bn1 bc1, .int .i64 b.height, .slice ba2 bn2 bc2, .slice ba3 bn3 bc3, .int .i64 b.slot, .bool b.isOpen, .int .i64 d.tab, .slice da1 dn1 dc1, .int .i64 d.height, .slice da2 dn2 dc2, .slice da3 dn3 dc3, .int .i64 d.slot, .bool d.isOpen] 41)).alloc (.cells #[.int .i64 x1, .int .i64 y1, .int .i64 x2, .int .i64 y2] 62)).heap[w.heap.size + 1 + 1 + 1]? = some (.cells #[.int .i64 x2, .int .i64 y2] 62 (0, 0)) := blk_past (blk_past (blk_new (by simp)))
  have fU : ((((((w.alloc (.cells #[.int .i64 b.tab, .slice ba1 bn1 bc1, .int .i64 b.height, .slice ba2 bn2 bc2, .slice ba3 bn3 bc3, .int .i64 b.slot, .bool b.isOpen] 41)).alloc (.cells #[.int .i64 d.tab, .slice da1 dn1 dc1, .int .i64 d.height, .slice da2 dn2 dc2, .slice da3 dn3 dc3, .int .i64 d.slot, .bool d.isOpen] 41)).alloc (.cells #[.int .i64 x1, .int .i64 y1] 62)).alloc (.cells #[.int .i64 x2, .int .i64 y2] 62)).alloc (.cells #[.int .i64 b.tab, .slice ba1 bn1 bc1, .int .i64 b.height, .slice ba2 bn2 bc2, .slice ba3 bn3 bc3, .int .i64 b.slot, .bool b.isOpen, .int .i64 d.tab, .slice da1 dn1 dc1, .int .i64 d.height, .slice da2 dn2 dc2, .slice da3 dn3 dc3, .int .i64 d.slot, .bool d.isOpen] 41)).alloc (.cells #[.int .i64 x1, .int .i64 y1, .int .i64 x2, .int .i64 y2] 62)).heap[w.heap.size + 1 + 1 + 1 + 1]? = some (.cells #[.int .i64 b.tab, .slice ba1 bn1 bc1, .int .i64 b.height, .slice ba2 bn2 bc2, .slice ba3 bn3 bc3, .int .i64 b.slot, .bool b.isOpen, .int .i64 d.tab, .slice da1 dn1 dc1, .int .i64 d.height, .slice da2 dn2 dc2, .slice da3 dn3 dc3, .int .i64 d.slot, .bool d.isOpen] 41 (0, 0)) := blk_past (blk_new (by simp))
  have fp : Pp ((((((w.alloc (.cells #[.int .i64 b.tab, .slice ba1 bn1 bc1, .int .i64 b.height, .slice ba2 bn2 bc2, .slice ba3 bn3 bc3, .int .i64 b.slot, .bool b.isOpen] 41)).alloc (.cells #[.int .i64 d.tab, .slice da1 dn1 dc1, .int .i64 d.height, .slice da2 dn2 dc2, .slice da3 dn3 dc3, .int .i64 d.slot, .bool d.isOpen] 41)).alloc (.cells #[.int .i64 x1, .int .i64 y1] 62)).alloc (.cells #[.int .i64 x2, .int .i64 y2] 62)).alloc (.cells #[.int .i64 b.tab, .slice ba1 bn1 bc1, .int .i64 b.height, .slice ba2 bn2 bc2, .slice ba3 bn3 bc3, .int .i64 b.slot, .bool b.isOpen, .int .i64 d.tab, .slice da1 dn1 dc1, .int .i64 d.height, .slice da2 dn2 dc2, .slice da3 dn3 dc3, .int .i64 d.slot, .bool d.isOpen] 41)).alloc (.cells #[.int .i64 x1, .int .i64 y1, .int .i64 x2, .int .i64 y2] 62)) (some ⟨w.heap.size + 1 + 1 + 1 + 1 + 1, 0, none⟩) 2 2 [(x1, y1), (x2, y2)] := pp_two _ _ _ _ _ _ _ (by simp)
  have fs : w.heap.size + 1 + 1 + 1 + 1 + 1 < ((((((w.alloc (.cells #[.int .i64 b.tab, .slice ba1 bn1 bc1, .int .i64 b.height, .slice ba2 bn2 bc2, .slice ba3 bn3 bc3, .int .i64 b.slot, .bool b.isOpen] 41)).alloc (.cells #[.int .i64 d.tab, .slice da1 dn1 dc1, .int .i64 d.height, .slice da2 dn2 dc2, .slice da3 dn3 dc3, .int .i64 d.slot, .bool d.isOpen] 41)).alloc (.cells #[.int .i64 x1, .int .i64 y1] 62)).alloc (.cells #[.int .i64 x2, .int .i64 y2] 62)).alloc (.cells #[.int .i64 b.tab, .slice ba1 bn1 bc1, .int .i64 b.height, .slice ba2 bn2 bc2, .slice ba3 bn3 bc3, .int .i64 b.slot, .bool b.isOpen, .int .i64 d.tab, .slice da1 dn1 dc1, .int .i64 d.height, .slice da2 dn2 dc2, .slice da3 dn3 dc3, .int .i64 d.slot, .bool d.isOpen] 41)).alloc (.cells #[.int .i64 x1, .int .i64 y1, .int .i64 x2, .int .i64 y2] 62)).heap.size := by simp
  generalize ((((((w.alloc (.cells #[.int .i64 b.tab, .slice ba1 bn1 bc1, .int .i64 b.height, .slice ba2 bn2 bc2, .slice ba3 bn3 bc3, .int .i64 b.slot, .bool b.isOpen] 41)).alloc (.cells #[.int .i64 d.tab, .slice da1 dn1 dc1, .int .i64 d.height, .slice da2 dn2 dc2, .slice da3 dn3 dc3, .int .i64 d.slot, .bool d.isOpen] 41)).alloc (.cells #[.int .i64 x1, .int .i64 y1] 62)).alloc (.cells #[.int .i64 x2, .int .i64 y2] 62)).alloc (.cells #[.int .i64 b.tab, .slice ba1 bn1 bc1, .int .i64 b.height, .slice ba2 bn2 bc2, .slice ba3 bn3 bc3, .int .i64 b.slot, .bool b.isOpen, .int .i64 d.tab, .slice da1 dn1 dc1, .int .i64 d.height, .slice da2 dn2 dc2, .slice da3 dn3 dc3, .int .i64 d.slot, .bool d.isOpen] 41)).alloc (.cells #[.int .i64 x1, .int .i64 y1, .int .i64 x2, .int .i64 y2] 62)) = W at fB fX fY fS fT fU fp fs ⊢
  have FB := Lib.hid fB; have FX := Lib.hid fX; have FY := Lib.hid fY; have FS := Lib.hid fS; have FT := Lib.hid fT
  clear fB
  refine (checked_two b ba1 ba2 ba3 bn1 bc1 bn2 bc2 bn3 bc3 d da1 da2 da3 dn1 dc1 dn2 dc2 dn3 dc3 _ _ _ _ _ [(x1, y1), (x2, y2)] _ (by omega) (fun i => Joins.cell_of_block fU i)
    (H1.out.below FB.out (Nat.le_refl _)) (H2.out.below FB.out (Nat.le_refl _)) (H3.out.below FB.out (Nat.le_refl _)) (K1.out.below FB.out (Nat.le_refl _)) (K2.out.below FB.out (Nat.le_refl _)) (K3.out.below FB.out (Nat.le_refl _)) fp).mono ?_
  rintro e w1 ⟨rfl, hb1⟩
  clear fU fp fX fY fS fT
  rw [HE.out]
  by_cases z : er = 0
  case neg =>
    have z' : (er != 0) = true := by rw [bne_iff_ne]; exact z
    have HZ := Lib.hid z
    clear z
    go_wp2
    go_ret2
    refine ⟨none, 0, 0, rfl, ?_, bnext FB.out hb1⟩
    rw [← HL.out, if_neg HZ.out]; exact pp_nil _
  subst z
  obtain ⟨hck, hsp⟩ := checked_split HE.out
  obtain ⟨hF, -, -, -, -, -⟩ := fine_of_check (hck b (by simp))
  obtain ⟨hG, -, -, -, -, -⟩ := fine_of_check (hck d (by simp))
  have hs1 := span_bounds (hsp (x1, y1) (by simp)); have hs2 := span_bounds (hsp (x2, y2) (by simp))
  simp only at hs1 hs2
  clear hck hsp
  obtain ⟨p0, p1, p2, p3, _, _, _, _, e1, _, _, r0, r1, r2, r3, _, _, _, _, _⟩ := hF
  obtain ⟨q0, q1, q2, q3, _, _, _, _, e2, _, _, s0, s1, s2, s3, _, _, _, _, _⟩ := hG
  have HL' := Lib.hid (show L = [(1000 * (p0 - q0) - y1 - y2, 1000 * (p0 - q0) - x1 - x2), (1000 * (p1 - q1) - y1 - y2, 1000 * (p1 - q1) - x1 - x2), (1000 * (p2 - q2) - y1 - y2, 1000 * (p2 - q2) - x1 - x2), (1000 * (p3 - q3) - y1 - y2, 1000 * (p3 - q3) - x1 - x2)] by rw [← HL.out, if_pos rfl]; simp [playL, e1, e2])
  have h1 := H1.out; have k1 := K1.out
  rw [e1] at h1; rw [e2] at k1
  obtain rfl : bn1 = 4 := h1.1
  obtain rfl : dn1 = 4 := k1.1
  obtain ⟨b1, o1, rfl, l1, j1⟩ := h1.at (by simp)
  obtain ⟨b2, o2, rfl, l2, j2⟩ := k1.at (by simp)
  have J1 := Lib.hid j1; have J2 := Lib.hid j2
  have hBw : Below w.heap.size w w1 := bnext FB.out hb1
  have GX := Lib.hid ((hb1.block _ (by omega)).trans FX.out); have GY := Lib.hid ((hb1.block _ (by omega)).trans FY.out); have GS := Lib.hid ((hb1.block _ (by omega)).trans FS.out); have GT := Lib.hid ((hb1.block _ (by omega)).trans FT.out)
  have gs : w.heap.size + 1 + 1 + 1 + 1 + 1 < w1.heap.size := Nat.lt_of_lt_of_le fs hb1.size
  clear j1 j2 h1 k1 e1 e2 HL HE H1 H2 H3 K1 K2 K3 FX FY FS FT FB hb1 fs
  obtain ⟨i0, hi, hz0, hz1, hz2⟩ := info_parts Try.info62x
  have c1 := Joins.cell_of_block GX.out 1
  simp only [List.getElem?_toArray, List.getElem?_cons_succ, List.getElem?_cons_zero] at c1
  go_wp2
  clear c1
  have hb1 : Below w1.heap.size w1 w1 := Below.refl _ _
  refine wp_loop_rounds 5 ?_
  rw [rounds_succ]
  have m0 := ((hBw.trans (hb1.mono hBw.size)).cell (p := ⟨b1, o1 + 0, none⟩) l1).trans (J1.out 0 (by simp))
  have m1 := ((hBw.trans (hb1.mono hBw.size)).cell (p := ⟨b2, o2 + 0, none⟩) l2).trans (J2.out 0 (by simp))
  have m2 := Joins.cell_of_block ((hb1.block _ (by omega)).trans GY.out) 1
  have m3 := Joins.cell_of_block ((hb1.block _ (by omega)).trans GS.out) 0
  have m4 := Joins.cell_of_block ((hb1.block _ (by omega)).trans GS.out) 1
  have m5 := Joins.cell_of_block ((hb1.block _ (by omega)).trans GT.out) 0
  have m6 := Joins.cell_of_block ((hb1.block _ (by omega)).trans GT.out) 1
  simp only [Nat.add_zero, List.getD_cons_zero, List.getElem?_toArray, List.getElem?_cons_succ, List.getElem?_cons_zero] at m0 m1 m2 m3 m4 m5 m6
  go_wp2_with (at_builtin; refine wpList_append_lies _ rfl (.tmp 40) (.tmp 56) 74 rfl w1.heap.size 62 i0 _ 2 16 Try.underlying74 hi hz0 hz1 hz2 rfl (by omega) _ 0 _ rfl (World.ownsRow_nil _ _ _ _) ⟨w1.heap.size, 0, none⟩ 1 1 [.int .i64 (1000 * (p0 - q0) - y1 - y2), .int .i64 (1000 * (p0 - q0) - x1 - x2)] rfl rfl (World.news_of_block (fr := (0, 0)) (t := 62) (cs := #[.int .i64 (1000 * (p0 - q0) - y1 - y2), .int .i64 (1000 * (p0 - q0) - x1 - x2)]) (blk_new (by simp))) (by simp [Value.oneCell']) (by omega) (by decide) (by decide) (balloc hb1 _).size _ rfl ?_; intro g1 cap1 w2 hown1 hgrow1 _ hlt1)
  have hb2 : Below w1.heap.size w1 w2 := (balloc hb1 _).grown hgrow1 (balloc hb1 _).size (by intro k hk; cases hk)
  clear m0 m1 m2 m3 m4 m5 m6 hgrow1
  go_wp2
  rw [rounds_succ]
  have m0 := ((hBw.trans (hb2.mono hBw.size)).cell (p := ⟨b1, o1 + 1, none⟩) l1).trans (J1.out 1 (by simp))
  have m1 := ((hBw.trans (hb2.mono hBw.size)).cell (p := ⟨b2, o2 + 1, none⟩) l2).trans (J2.out 1 (by simp))
  have m2 := Joins.cell_of_block ((hb2.block _ (by omega)).trans GY.out) 1
  have m3 := Joins.cell_of_block ((hb2.block _ (by omega)).trans GS.out) 0
  have m4 := Joins.cell_of_block ((hb2.block _ (by omega)).trans GS.out) 1
  have m5 := Joins.cell_of_block ((hb2.block _ (by omega)).trans GT.out) 0
  have m6 := Joins.cell_of_block ((hb2.block _ (by omega)).trans GT.out) 1
  simp only [List.getD_cons_zero, List.getD_cons_succ, List.getElem?_toArray, List.getElem?_cons_succ, List.getElem?_cons_zero] at m0 m1 m2 m3 m4 m5 m6
  go_wp2_with (at_builtin; refine wpList_append_lies _ rfl (.tmp 40) (.tmp 56) 74 rfl w1.heap.size 62 i0 _ 2 16 Try.underlying74 hi hz0 hz1 hz2 rfl (by omega) _ 1 _ rfl (hown1.alloc _) ⟨w2.heap.size, 0, none⟩ 1 1 [.int .i64 (1000 * (p1 - q1) - y1 - y2), .int .i64 (1000 * (p1 - q1) - x1 - x2)] rfl rfl (World.news_of_block (fr := (0, 0)) (t := 62) (cs := #[.int .i64 (1000 * (p1 - q1) - y1 - y2), .int .i64 (1000 * (p1 - q1) - x1 - x2)]) (blk_new (by simp))) (by simp [Value.oneCell']) (by omega) (by decide) (by decide) (balloc hb2 _).size _ rfl ?_; intro g2 cap2 w3 hown2 hgrow2 _ hlt2)
  have hb3 : Below w1.heap.size w1 w3 := (balloc hb2 _).grown hgrow2 (balloc hb2 _).size (own_ge hown1)
  clear m0 m1 m2 m3 m4 m5 m6 hgrow2
  go_wp2
  rw [rounds_succ]
  have m0 := ((hBw.trans (hb3.mono hBw.size)).cell (p := ⟨b1, o1 + 2, none⟩) l1).trans (J1.out 2 (by simp))
  have m1 := ((hBw.trans (hb3.mono hBw.size)).cell (p := ⟨b2, o2 + 2, none⟩) l2).trans (J2.out 2 (by simp))
  have m2 := Joins.cell_of_block ((hb3.block _ (by omega)).trans GY.out) 1
  have m3 := Joins.cell_of_block ((hb3.block _ (by omega)).trans GS.out) 0
  have m4 := Joins.cell_of_block ((hb3.block _ (by omega)).trans GS.out) 1
  have m5 := Joins.cell_of_block ((hb3.block _ (by omega)).trans GT.out) 0
  have m6 := Joins.cell_of_block ((hb3.block _ (by omega)).trans GT.out) 1
  simp only [List.getD_cons_zero, List.getD_cons_succ, List.getElem?_toArray, List.getElem?_cons_succ, List.getElem?_cons_zero] at m0 m1 m2 m3 m4 m5 m6
  go_wp2_with (at_builtin; refine wpList_append_lies _ rfl (.tmp 40) (.tmp 56) 74 rfl w1.heap.size 62 i0 _ 2 16 Try.underlying74 hi hz0 hz1 hz2 rfl (by omega) _ 2 _ rfl (hown2.alloc _) ⟨w3.heap.size, 0, none⟩ 1 1 [.int .i64 (1000 * (p2 - q2) - y1 - y2), .int .i64 (1000 * (p2 - q2) - x1 - x2)] rfl rfl (World.news_of_block (fr := (0, 0)) (t := 62) (cs := #[.int .i64 (1000 * (p2 - q2) - y1 - y2), .int .i64 (1000 * (p2 - q2) - x1 - x2)]) (blk_new (by simp))) (by simp [Value.oneCell']) (by omega) (by decide) (by decide) (balloc hb3 _).size _ rfl ?_; intro g3 cap3 w4 hown3 hgrow3 _ hlt3)
  have hb4 : Below w1.heap.size w1 w4 := (balloc hb3 _).grown hgrow3 (balloc hb3 _).size (own_ge hown2)
  clear m0 m1 m2 m3 m4 m5 m6 hgrow3
  go_wp2
  rw [rounds_succ]
  have m0 := ((hBw.trans (hb4.mono hBw.size)).cell (p := ⟨b1, o1 + 3, none⟩) l1).trans (J1.out 3 (by simp))
  have m1 := ((hBw.trans (hb4.mono hBw.size)).cell (p := ⟨b2, o2 + 3, none⟩) l2).trans (J2.out 3 (by simp))
  have m2 := Joins.cell_of_block ((hb4.block _ (by omega)).trans GY.out) 1
  have m3 := Joins.cell_of_block ((hb4.block _ (by omega)).trans GS.out) 0
  have m4 := Joins.cell_of_block ((hb4.block _ (by omega)).trans GS.out) 1
  have m5 := Joins.cell_of_block ((hb4.block _ (by omega)).trans GT.out) 0
  have m6 := Joins.cell_of_block ((hb4.block _ (by omega)).trans GT.out) 1
  simp only [List.getD_cons_zero, List.getD_cons_succ, List.getElem?_toArray, List.getElem?_cons_succ, List.getElem?_cons_zero] at m0 m1 m2 m3 m4 m5 m6
  go_wp2_with (at_builtin; refine wpList_append_lies _ rfl (.tmp 40) (.tmp 56) 74 rfl w1.heap.size 62 i0 _ 2 16 Try.underlying74 hi hz0 hz1 hz2 rfl (by omega) _ 3 _ rfl (hown3.alloc _) ⟨w4.heap.size, 0, none⟩ 1 1 [.int .i64 (1000 * (p3 - q3) - y1 - y2), .int .i64 (1000 * (p3 - q3) - x1 - x2)] rfl rfl (World.news_of_block (fr := (0, 0)) (t := 62) (cs := #[.int .i64 (1000 * (p3 - q3) - y1 - y2), .int .i64 (1000 * (p3 - q3) - x1 - x2)]) (blk_new (by simp))) (by simp [Value.oneCell']) (by omega) (by decide) (by decide) (balloc hb4 _).size _ rfl ?_; intro g4 cap4 w5 hown4 hgrow4 _ hlt4)
  have hb5 : Below w1.heap.size w1 w5 := (balloc hb4 _).grown hgrow4 (balloc hb4 _).size (own_ge hown3)
  clear m0 m1 m2 m3 m4 m5 m6 hgrow4
  go_wp2
  rw [rounds_succ]
  go_wp2
  go_ret2
  refine ⟨some ⟨g4, 0, none⟩, 4, cap4, rfl, ?_, hBw.trans (hb5.mono hBw.size)⟩
  rw [HL'.out]
  exact owns_pp hown4
end Go.Proofs.Ytolnpbpeifpbjaa
namespace Go.Proofs
open Go.Shelf
def Try.lays189_ren : Go.Shelf.Ren := ⟨fun | 189 => 71 | 125 => 94 | 257 => 93 | 128 => 116 | 129 => 117 | 294 => 107 | 295 => 108 | 296 => 109 | 297 => 110 | 298 => 111 | 299 => 112 | 216 => 113 | 300 => 114 | 301 => 115 | 328 => 121 | 329 => 122 | 330 => 123 | 331 => 124 | 332 => 125 | 215 => 126 | 343 => 127 | n => n, fun | 28 => 39 | 3 => 3 | 46 => 169 | 0 => 0 | 51 => 189 | 53 => 191 | 4 => 4 | 183 => 181 | 182 => 180 | 131 => 186 | 5 => 5 | 9 => 9 | 218 => 194 | 222 => 198 | 228 => 200 | 229 => 201 | n => n, fun | n => n⟩
theorem Try.lays189 : Go.Proofs.Lays.n189 Try.prog Try.lays189_ren := {
  mixed := by kernel_rfl
  f125 := Try.func94.trans (congrArg some (by kernel_rfl))
  f128 := Try.func116.trans (congrArg some (by kernel_rfl))
  f129 := Try.func117.trans (congrArg some (by kernel_rfl))
  f189 := Try.func71.trans (congrArg some (by kernel_rfl))
  f215 := Try.func126.trans (congrArg some (by kernel_rfl))
  f216 := Try.func113.trans (congrArg some (by kernel_rfl))
  f257 := Try.func93.trans (congrArg some (by kernel_rfl))
  f294 := Try.func107.trans (congrArg some (by kernel_rfl))
  f295 := Try.func108.trans (congrArg some (by kernel_rfl))
  f296 := Try.func109.trans (congrArg some (by kernel_rfl))
  f297 := Try.func110.trans (congrArg some (by kernel_rfl))
  f298 := Try.func111.trans (congrArg some (by kernel_rfl))
  f299 := Try.func112.trans (congrArg some (by kernel_rfl))
  f300 := Try.func114.trans (congrArg some (by kernel_rfl))
  f301 := Try.func115.trans (congrArg some (by kernel_rfl))
  f328 := Try.func121.trans (congrArg some (by kernel_rfl))
  f329 := Try.func122.trans (congrArg some (by kernel_rfl))
  f330 := Try.func123.trans (congrArg some (by kernel_rfl))
  f331 := Try.func124.trans (congrArg some (by kernel_rfl))
  f332 := Try.func125.trans (congrArg some (by kernel_rfl))
  f343 := Try.func127.trans (congrArg some (by kernel_rfl))
  t0 := Try.underlying0
  a0 := Try.isAgg0
  z0 := Try.sizeOf0
  v0 := Try.zeroValue0
  t3 := Try.underlying3
  a3 := Try.isAgg3
  z3 := Try.sizeOf3
  v3 := Try.zeroValue3
  t4 := Try.underlying4
  a4 := Try.isAgg4
  z4 := Try.sizeOf4
  v4 := Try.zeroValue4
  t5 := Try.underlying5
  a5 := Try.isAgg5
  z5 := Try.sizeOf5
  v5 := Try.zeroValue5
  t9 := Try.underlying9
  a9 := Try.isAgg9
  z9 := Try.sizeOf9
  v9 := Try.zeroValue9
  t28 := Try.underlying39
  a28 := Try.isAgg39
  z28 := Try.sizeOf39
  v28 := Try.zeroValue39
  t46 := Try.underlying169
  a46 := Try.isAgg169
  z46 := Try.sizeOf169
  v46 := Try.zeroValue169
  t51 := Try.underlying189
  a51 := Try.isAgg189
  z51 := Try.sizeOf189
  v51 := Try.zeroValue189
  t53 := Try.underlying191
  a53 := Try.isAgg191
  z53 := Try.sizeOf191
  v53 := Try.zeroValue191
  t131 := Try.underlying186
  a131 := Try.isAgg186
  z131 := Try.sizeOf186
  v131 := Try.zeroValue186
  t182 := Try.underlying180
  a182 := Try.isAgg180
  z182 := Try.sizeOf180
  v182 := Try.zeroValue180
  t183 := Try.underlying181
  a183 := Try.isAgg181
  z183 := Try.sizeOf181
  v183 := Try.zeroValue181
  t218 := Try.underlying194
  a218 := Try.isAgg194
  z218 := Try.sizeOf194
  v218 := Try.zeroValue194
  t222 := Try.underlying198
  a222 := Try.isAgg198
  z222 := Try.sizeOf198
  v222 := Try.zeroValue198
  t228 := Try.underlying200
  a228 := Try.isAgg200
  z228 := Try.sizeOf200
  v228 := Try.zeroValue200
  t229 := Try.underlying201
  a229 := Try.isAgg201
  z229 := Try.sizeOf201
  v229 := Try.zeroValue201 }
open Go.Sort Go.RowKit in
theorem Try.slices_Sort_int (blk off cap : Nat) (zs : List Int) (w : World) (hH : Holds (Value.int .i64) w blk off zs.toArray) (hblk : blk < w.heap.size) (hsz : zs.length < 4611686018427387904) :
    Calls Try.prog 71 #[.slice (some ⟨blk, off, none⟩) zs.length cap] w fun e w' =>
      e = .returned (.tuple #[]) ∧ ∃ n os, w' = grow (putRow (Value.int .i64) (Sort.ahead w n) blk off (zs.mergeSort fun x y => decide (x ≤ y)).toArray) os := Any.slices_Sort_int Try.lays189 blk off cap zs w hH hblk hsz
end Go.Proofs
namespace Go.Proofs.Ytolnpbpeifpbjaa
open Go.RowKit
structure Except (g : Nat) (w w' : World) : Prop where
  os : w'.os = w.os
  tape : w'.tape = w.tape
  output : w'.output = w.output
  size : w.heap.size ≤ w'.heap.size
  block : ∀ k, k < w.heap.size → k ≠ g → w'.heap[k]? = w.heap[k]?
theorem Except.below {g B : Nat} {a w w' : World} (h : Except g w w') (hb : Below B a w) (hB : B ≤ g) (hs : B ≤ w.heap.size) : Below B a w' :=
  ⟨h.os.trans hb.os, h.tape.trans hb.tape, h.output.trans hb.output, Nat.le_trans hb.size h.size, fun k hk => (h.block k (by omega) (by omega)).trans (hb.block k hk)⟩
theorem Except.cell {g : Nat} {w w' : World} (h : Except g w w') {p : Addr} (hp : p.block < w.heap.size) (hg : p.block ≠ g) : w'.cell? p = w.cell? p := World.cell?_of_block (w := w) (h.block p.block hp hg)
theorem Except.ii {g : Nat} {w w' : World} (h : Except g w w') {b off len cap : Nat} {xs : List Int} (hi : Ii w (some ⟨b, off, none⟩) len cap xs) (hb : b ≠ g) : Ii w' (some ⟨b, off, none⟩) len cap xs := by
  obtain ⟨h0, h1, h2, h3, h4⟩ := hi
  refine ⟨h0, h1, h2, h3, ?_⟩
  rcases h4 with h4 | ⟨b', off', ha, hlt, hc⟩
  · exact .inl h4
  · simp only [Option.some.injEq, Addr.mk.injEq, and_true] at ha
    obtain ⟨rfl, rfl⟩ := ha
    exact .inr ⟨b, off, rfl, Nat.lt_of_lt_of_le hlt h.size, fun i hi => (h.cell (p := ⟨b, off + i, none⟩) hlt hb).trans (hc i hi)⟩
def SortP (g cap : Nat) (zs : List Int) (w : World) (e : Ending) (w' : World) : Prop :=
  e = .returned (.tuple #[]) ∧ Ii w' (some ⟨g, 0, none⟩) zs.length cap (zs.mergeSort fun x y => decide (x ≤ y)) ∧ Except g w w'
theorem sort_own (g cap : Nat) (zs : List Int) (w : World) (h : Ii w (some ⟨g, 0, none⟩) zs.length cap zs) (hf : ∀ i, w.frozen? ⟨g, i, none⟩ = false) (hg : g < w.heap.size) (hn : zs.length ≤ 1000) :
    Calls Try.prog 71 #[.slice (some ⟨g, 0, none⟩) zs.length cap] w (SortP g cap zs w) := by
  have hH : Sort.Holds (Value.int .i64) w g 0 zs.toArray := by
    intro j hj
    have hj' : j < zs.length := by simpa using hj
    refine ⟨?_, by simpa using hf (0 + j)⟩
    rcases h.2.2.2.2 with h4 | ⟨b', off', ha, hlt, hc⟩
    · simp at h4; subst h4; simp at hj
    · simp only [Option.some.injEq, Addr.mk.injEq, and_true] at ha
      obtain ⟨rfl, rfl⟩ := ha
      rw [hc j (by simpa using hj')]
      simp [List.getD_eq_getElem?_getD, hj']
  refine (Try.slices_Sort_int g 0 cap zs w hH hg (by omega)).mono ?_
  rintro e w' ⟨rfl, n, os, rfl⟩
  have hl := List.length_mergeSort (le := fun x y : Int => decide (x ≤ y)) zs
  refine ⟨rfl, ⟨by rw [hl], h.2.1, h.2.2.1, h.2.2.2.1, .inr ⟨g, 0, rfl, ?_, fun i hi => ?_⟩⟩, ⟨rfl, rfl, rfl, ?_, fun k hk hkg => ?_⟩⟩
  · simp [Sort.grow, Sort.putRow, Sort.mapBlock, Sort.ahead]; omega
  · have hi' : i < zs.length := by simpa [hl] using hi
    rw [Sort.cell?_grow _ _ _ (by simpa [Sort.putRow, Sort.mapBlock, Sort.ahead] using hg), Sort.cell?_putRow _ _ _ _ zs.toArray _ (Sort.holds_ahead _ _ _ _ _ _ hH) (by simp [hl]) i (by simpa [hl] using hi')]
    simp [List.getD_eq_getElem?_getD, hi', hl]
  · simp [Sort.grow, Sort.putRow, Sort.mapBlock, Sort.ahead]
  · simp only [Sort.grow, Sort.putRow, Sort.mapBlock, Sort.ahead]
    rw [Array.getElem?_append_left (by simpa using hk), Array.getElem?_modify, if_neg (by omega)]
open Go.RowKit
theorem fits1_any (k : Nat) (x y c : Int) (g cap : Nat) (pa pc : Addr) (w : World) (hk : k < 9) (ha : w.cell? pa = some (.slice (some ⟨g, 0, none⟩) 9 cap)) (hc : w.cell? pc = some (.int .i64 c))
    (h0 : w.cell? ⟨g, k * 2, none⟩ = some (.int .i64 x)) (h1 : w.cell? ⟨g, k * 2 + 1, none⟩ = some (.int .i64 y)) (la : pa.block < w.heap.size) (lc : pc.block < w.heap.size) (lg : g < w.heap.size)
    (r1 : -100000 ≤ x) (r2 : x ≤ 100000) (r3 : 0 ≤ y) (r4 : y ≤ 10) (r5 : 0 ≤ c) (r6 : c ≤ 100000) :
    Calls Try.prog 67 #[.int .i64 k, .pointer (some pa), .pointer (some pc)] w fun e w' => e = .returned (.int .i64 (1000 * x - y * c)) ∧ Below w.heap.size w w' := by
  have hk0 : (0 : Int) ≤ (k : Int) := by omega
  have hk1 : (k : Int) < 9 := by omega
  go_enter Try.func67, Try.ntmps67
  go_wp2_with fail
  go_region_held3 (fun w' => w'.cell? pa = some (.slice (some ⟨g, 0, none⟩) 9 cap) ∧ w'.cell? pc = some (.int .i64 c) ∧ w'.cell? ⟨g, k * 2, none⟩ = some (.int .i64 x) ∧ w'.cell? ⟨g, k * 2 + 1, none⟩ = some (.int .i64 y))
    (first
      | (refine ⟨(Below.cell (B := w.heap.size) (w := w) ?_ la).trans ha, (Below.cell (B := w.heap.size) (w := w) ?_ lc).trans hc, (Below.cell (B := w.heap.size) (w := w) ?_ lg).trans h0, (Below.cell (B := w.heap.size) (w := w) ?_ lg).trans h1⟩ <;> (repeat (first | exact Below.refl _ _ | assumption | apply Below.drew | refine balloc ?_ _)); done)
      | go_keep)
    (first
      | (go_at_call 68; (with_reducible refine (with_any x y c _ r1 r2 r3 r4 r5 r6).mono ?_); rintro e w2 ⟨rfl, hx⟩; have hb2 : Below w.heap.size w w2 := bnext (by repeat (first | exact Below.refl _ _ | assumption | apply Below.drew | (refine balloc ?_ _))) hx))
  go_wp2
  go_ret
  exact ⟨rfl, hb2⟩
theorem fits2_any (n : Int) (w : World) (h1 : -100000 ≤ n) (h2 : n ≤ 100000) :
    Calls Try.prog 70 #[.int .i64 n] w fun e w' => e = .returned (.int .i64 (1000 * n)) ∧ Below w.heap.size w w' := by
  go_enter Try.func70, Try.ntmps70
  go_wp2
  go_ret
  exact ⟨rfl, Below.refl _ _⟩
def withM (l : List (Int × Int)) (c : Int) (i : Nat) : Int := 1000 * (l.getD i (0, 0)).1 - (l.getD i (0, 0)).2 * c
def roomOf (b : Bl) (c : Int) : List Int := [min (withM (meas b) c 0) (withM (meas b) c 2), min (withM (meas b) c 1) (withM (meas b) c 3), withM (meas b) c 4]
def sortI (l : List Int) : List Int := l.mergeSort fun x y => decide (x ≤ y)
def fitsOf (b : Bl) (c : Int) (thing : List Int) : Bool := ((sortI (thing.map (1000 * ·))).zip (sortI (roomOf b c))).all fun p => decide (p.1 ≤ p.2)
theorem ii_three (w : World) (x y z : Int) (t : TypeId) (g : Nat) (hg : g = w.heap.size) : Ii (w.alloc (.cells #[.int .i64 x, .int .i64 y, .int .i64 z] t)) (some ⟨g, 0, none⟩) 3 3 [x, y, z] := by
  subst hg
  refine ⟨rfl, Nat.le_refl _, by unfold maxLen; omega, by simp, .inr ⟨_, _, rfl, by simp, fun i hi => ?_⟩⟩
  have : i = 0 ∨ i = 1 ∨ i = 2 := by simp at hi; omega
  rcases this with rfl | rfl | rfl <;> simp
theorem list_three {α : Type} {l : List α} (h : l.length = 3) : ∃ x y z, l = [x, y, z] := by
  match l, h with
  | [x, y, z], _ => exact ⟨x, y, z, rfl⟩
theorem fits_any (v : Value) (b : Bl) (c : Int) (a : Option Addr) (n cc : Nat) (thing : List Int) (w : World) (hB : Blk w v b) (hF : Fine b) (h3 : thing.length = 3) (ht : ∀ x ∈ thing, 0 ≤ x ∧ x ≤ 3000) (hI : Ii w a n cc thing) (hc1 : 0 ≤ c) (hc2 : c ≤ 10000) :
    Calls Try.prog 41 #[v, .int .i64 c, .slice a n cc] w fun e w' => e = .returned (.bool (fitsOf b c thing)) ∧ Below w.heap.size w w' := by
  obtain ⟨a1, n1, c1, a2, n2, c2, a3, n3, c3, rfl, k1, k2, k3⟩ := hB
  have HB := Lib.hid (show Blk w _ b from ⟨a1, n1, c1, a2, n2, c2, a3, n3, c3, rfl, k1, k2, k3⟩)
  have HF := Lib.hid hF; have HI := Lib.hid hI; have HT := Lib.hid ht; have H3 := Lib.hid h3
  have hML := meas_in hF
  have HML := Lib.hid hML
  generalize hR : fitsOf b c thing = R
  have HR := Lib.hid hR
  clear k1 k2 k3 hF hI ht h3 hML hR
  go_enter Try.func41, Try.ntmps41
  go_wp2_with fail
  refine (measures_blk _ b _ (HB.out.below (balloc (balloc1 w _) _) (Nat.le_refl _)) HF.out).mono ?_
  rintro e w1 ⟨g, cap, rfl, hp, hx⟩
  rw [meas_length] at hp ⊢
  have hb1 : Below w.heap.size w w1 := bnext (balloc (balloc1 w _) _) hx
  have hcal : w1.cell? ⟨w.heap.size + 1, 0, none⟩ = some (.int .i64 c) := (hx.cell (p := ⟨w.heap.size + 1, 0, none⟩) (by simp)).trans (by simp)
  have hs1 : w.heap.size + 1 < w1.heap.size := by have := hx.size; simp at this; omega
  obtain ⟨g', o', e', lg, q⟩ := hp.at (by rw [meas_length]; omega)
  simp only [Option.some.injEq, Addr.mk.injEq, and_true] at e'
  obtain ⟨rfl, rfl⟩ := e'
  have Q := Lib.hid q; have HC := Lib.hid hcal
  clear hx hp q hcal
  go_wp2_with fail
  have fL : (w1.alloc (.cells #[.slice (some ⟨g, 0, none⟩) 9 cap] 141)).cell? ⟨w1.heap.size, 0, none⟩ = some (.slice (some ⟨g, 0, none⟩) 9 cap) := by simp
  have fb : Below w1.heap.size w1 (w1.alloc (.cells #[.slice (some ⟨g, 0, none⟩) 9 cap] 141)) := balloc1 w1 _
  have fs : w1.heap.size < (w1.alloc (.cells #[.slice (some ⟨g, 0, none⟩) 9 cap] 141)).heap.size := by simp
  generalize w1.alloc (.cells #[.slice (some ⟨g, 0, none⟩) 9 cap] 141) = W at fL fb fs ⊢
  have FL := Lib.hid fL; have FBW := Lib.hid fb
  have hat : ∀ (i : Nat), i < 9 → ∀ w2, Below W.heap.size W w2 → Calls Try.prog 67 #[.int .i64 i, .pointer (some ⟨w1.heap.size, 0, none⟩), .pointer (some ⟨w.heap.size + 1, 0, none⟩)] w2 fun e w' => e = .returned (.int .i64 (withM (meas b) c i)) ∧ Below w2.heap.size w2 w' := by
    intro i hi w2 h2
    have hq := Q.out i (by rw [meas_length]; exact hi)
    have hm := HML.out ((meas b).getD i (0, 0)) (getD_mem _ i (by rw [meas_length]; exact hi) _)
    have hbw : Below w1.heap.size w1 w2 := FBW.out.trans (h2.mono FBW.out.size)
    unfold withM
    generalize (meas b).getD i (0, 0) = x at *
    exact fits1_any i x.1 x.2 c g cap ⟨w1.heap.size, 0, none⟩ ⟨w.heap.size + 1, 0, none⟩ w2 hi ((h2.cell (p := ⟨w1.heap.size, 0, none⟩) fs).trans FL.out) ((hbw.cell (p := ⟨w.heap.size + 1, 0, none⟩) hs1).trans HC.out)
      ((hbw.cell (p := ⟨g, i * 2, none⟩) lg).trans (by simpa using hq.1)) ((hbw.cell (p := ⟨g, i * 2 + 1, none⟩) lg).trans (by simpa using hq.2)) (Nat.lt_of_lt_of_le fs h2.size) (Nat.lt_of_lt_of_le hs1 hbw.size) (Nat.lt_of_lt_of_le lg hbw.size)
      (by omega) (by omega) (by omega) (by omega) (by omega) (by omega)
  have HAT := Lib.hid hat
  have hw0 : Below W.heap.size W W := Below.refl _ _
  clear hat fL fb
  have C0 : Hid (Calls Try.prog 67 #[.int .i64 0, .pointer (some ⟨w1.heap.size, 0, none⟩), .pointer (some ⟨w.heap.size + 1, 0, none⟩)] W fun e w' => e = .returned (.int .i64 (withM (meas b) c 0)) ∧ Below W.heap.size W w') := Lib.hid (HAT.out 0 (by omega) W hw0)
  go_wp2_with ((with_reducible refine (C0.out).mono ?_); rintro e x0 ⟨rfl, hx0⟩)
  have hw1 : Below W.heap.size W x0 := bnext hw0 hx0
  clear C0 hx0
  have C1 : Hid (Calls Try.prog 67 #[.int .i64 2, .pointer (some ⟨w1.heap.size, 0, none⟩), .pointer (some ⟨w.heap.size + 1, 0, none⟩)] x0 fun e w' => e = .returned (.int .i64 (withM (meas b) c 2)) ∧ Below x0.heap.size x0 w') := Lib.hid (HAT.out 2 (by omega) x0 hw1)
  go_wp2_with ((with_reducible refine (C1.out).mono ?_); rintro e x1 ⟨rfl, hx1⟩)
  have hw2 : Below W.heap.size W x1 := bnext hw1 hx1
  clear C1 hx1
  have C2 : Hid (Calls Try.prog 67 #[.int .i64 1, .pointer (some ⟨w1.heap.size, 0, none⟩), .pointer (some ⟨w.heap.size + 1, 0, none⟩)] x1 fun e w' => e = .returned (.int .i64 (withM (meas b) c 1)) ∧ Below x1.heap.size x1 w') := Lib.hid (HAT.out 1 (by omega) x1 hw2)
  go_wp2_with ((with_reducible refine (C2.out).mono ?_); rintro e x2 ⟨rfl, hx2⟩)
  have hw3 : Below W.heap.size W x2 := bnext hw2 hx2
  clear C2 hx2
  have C3 : Hid (Calls Try.prog 67 #[.int .i64 3, .pointer (some ⟨w1.heap.size, 0, none⟩), .pointer (some ⟨w.heap.size + 1, 0, none⟩)] x2 fun e w' => e = .returned (.int .i64 (withM (meas b) c 3)) ∧ Below x2.heap.size x2 w') := Lib.hid (HAT.out 3 (by omega) x2 hw3)
  go_wp2_with ((with_reducible refine (C3.out).mono ?_); rintro e x3 ⟨rfl, hx3⟩)
  have hw4 : Below W.heap.size W x3 := bnext hw3 hx3
  clear C3 hx3
  have C4 : Hid (Calls Try.prog 67 #[.int .i64 4, .pointer (some ⟨w1.heap.size, 0, none⟩), .pointer (some ⟨w.heap.size + 1, 0, none⟩)] x3 fun e w' => e = .returned (.int .i64 (withM (meas b) c 4)) ∧ Below x3.heap.size x3 w') := Lib.hid (HAT.out 4 (by omega) x3 hw4)
  go_wp2_with ((with_reducible refine (C4.out).mono ?_); rintro e x4 ⟨rfl, hx4⟩)
  have hw5 : Below W.heap.size W x4 := bnext hw4 hx4
  clear C4 hx4
  have hWw : Below w.heap.size w x4 := hb1.trans ((FBW.out.trans (hw5.mono FBW.out.size)).mono hb1.size)
  have hi5 : Ii (x4.alloc (.cells #[.int .i64 (min (withM (meas b) c 0) (withM (meas b) c 2)), .int .i64 (min (withM (meas b) c 1) (withM (meas b) c 3)), .int .i64 (withM (meas b) c 4)] 3)) (some ⟨x4.heap.size, 0, none⟩) 3 3 (roomOf b c) := ii_three _ _ _ _ _ _ rfl
  have hf5 : ∀ i, (x4.alloc (.cells #[.int .i64 (min (withM (meas b) c 0) (withM (meas b) c 2)), .int .i64 (min (withM (meas b) c 1) (withM (meas b) c 3)), .int .i64 (withM (meas b) c 4)] 3)).frozen? ⟨x4.heap.size, i, none⟩ = false := fun i => Joins.unfrozen_of_block (blk_new rfl) i
  have hs5 : x4.heap.size < (x4.alloc (.cells #[.int .i64 (min (withM (meas b) c 0) (withM (meas b) c 2)), .int .i64 (min (withM (meas b) c 1) (withM (meas b) c 3)), .int .i64 (withM (meas b) c 4)] 3)).heap.size := by simp
  have hb5 : Below w.heap.size w (x4.alloc (.cells #[.int .i64 (min (withM (meas b) c 0) (withM (meas b) c 2)), .int .i64 (min (withM (meas b) c 1) (withM (meas b) c 3)), .int .i64 (withM (meas b) c 4)] 3)) := balloc hWw _
  have hle5 : w.heap.size ≤ x4.heap.size := hWw.size
  generalize x4.alloc (.cells #[.int .i64 (min (withM (meas b) c 0) (withM (meas b) c 2)), .int .i64 (min (withM (meas b) c 1) (withM (meas b) c 3)), .int .i64 (withM (meas b) c 4)] 3) = Y at hi5 hf5 hs5 hb5 ⊢
  generalize x4.heap.size = gr at hi5 hf5 hs5 hle5 ⊢
  obtain ⟨s0, s1, s2, rfl⟩ := list_three H3.out
  refine (mapped_own 70 Try.call70 #[] (1000 * ·) a n cc [s0, s1, s2] Y (HI.out.below hb5 (Nat.le_refl _)) (by simp) (by simp) (fun x hx w1 _ => fits2_any x w1 (by have := HT.out x hx; omega) (by have := HT.out x hx; omega))).mono ?_
  rintro e y ⟨g6, cap6, rfl, hi6, hx6, hg6, hl6, hf6⟩
  have hi5' := hi5.below hx6 (Nat.le_refl _)
  have hf5' : ∀ i, y.frozen? ⟨gr, i, none⟩ = false := fun i => (hx6.frozen (p := ⟨gr, i, none⟩) hs5).trans (hf5 i)
  have hb6 := hb5.trans (hx6.mono hb5.size)
  have hs6 : gr < y.heap.size := Nat.lt_of_lt_of_le hs5 hx6.size
  have hne : gr ≠ g6 := by omega
  simp only [List.length_map, List.length_cons, List.length_nil, Nat.zero_add, Nat.reduceAdd] at hi6 ⊢
  have CS : Hid (Calls Try.prog 71 #[.slice (some ⟨gr, 0, none⟩) 3 3] y (SortP gr 3 (roomOf b c) y)) := Lib.hid (sort_own gr 3 (roomOf b c) y hi5' hf5' hs6 (by simp [roomOf]))
  have HI6 := Lib.hid hi6; have HF6 := Lib.hid hf6; have HB6 := Lib.hid hb6
  clear hi5 hf5 hb5 hi5' hf5' hx6 hi6 hf6 hb6
  go_wp2_with ((with_reducible refine (CS.out).mono ?_); rintro e z ⟨rfl, hiz, hez⟩)
  have hi6z := hez.ii HI6.out (Ne.symm hne)
  have hf6z : ∀ i, z.frozen? ⟨g6, i, none⟩ = false := fun i => (World.frozen?_of_block (w := y) (a := ⟨g6, i, none⟩) (hez.block g6 hl6 (Ne.symm hne))).trans (HF6.out i)
  have hl6z : g6 < z.heap.size := Nat.lt_of_lt_of_le hl6 hez.size
  have CT : Hid (Calls Try.prog 71 #[.slice (some ⟨g6, 0, none⟩) 3 cap6] z (SortP g6 cap6 ([s0, s1, s2].map (1000 * ·)) z)) := Lib.hid (sort_own g6 cap6 _ z hi6z hf6z hl6z (by simp))
  have HBz : Hid (Below w.heap.size w z) := Lib.hid (hez.below HB6.out (by omega) HB6.out.size)
  have HIZ := Lib.hid hiz
  have hgrz : gr < z.heap.size := Nat.lt_of_lt_of_le hs6 hez.size
  clear CS hi6z hf6z hez hiz
  go_wp2_with ((with_reducible refine (CT.out).mono ?_); rintro e u ⟨rfl, hiu, heu⟩)
  have hRu := heu.ii HIZ.out hne
  have HBu : Hid (Below w.heap.size w u) := Lib.hid (heu.below HBz.out (by have := HB6.out.size; omega) HBz.out.size)
  have hsl : (sortI ([s0, s1, s2].map (1000 * ·))).length = 3 := by simp [sortI]
  have hrl : (sortI (roomOf b c)).length = 3 := by simp [sortI, roomOf]
  change Ii u _ _ _ (sortI ([s0, s1, s2].map (1000 * ·))) at hiu
  change Ii u _ _ _ (sortI (roomOf b c)) at hRu
  have HR' := Lib.hid (HR.out.symm.trans (show fitsOf b c [s0, s1, s2] = ((sortI ([s0, s1, s2].map (1000 * ·))).zip (sortI (roomOf b c))).all fun p => decide (p.1 ≤ p.2) from rfl))
  generalize sortI ([s0, s1, s2].map (1000 * ·)) = S at *
  generalize sortI (roomOf b c) = T at *
  obtain ⟨m0, m1, m2, rfl⟩ := list_three hsl
  obtain ⟨r0, r1, r2, rfl⟩ := list_three hrl
  obtain ⟨_, _, e1, lm, qm⟩ := hiu.at (by simp)
  obtain ⟨_, _, e2, lr, qr⟩ := hRu.at (by simp)
  simp only [Option.some.injEq, Addr.mk.injEq, and_true] at e1 e2
  obtain ⟨rfl, rfl⟩ := e1
  obtain ⟨rfl, rfl⟩ := e2
  have z0 := qm 0 (by simp); have z1 := qm 1 (by simp); have z2 := qm 2 (by simp)
  have y0 := qr 0 (by simp); have y1 := qr 1 (by simp); have y2 := qr 2 (by simp)
  simp only [Nat.add_zero, Nat.zero_add, List.getD_cons_zero, List.getD_cons_succ] at z0 z1 z2 y0 y1 y2
  clear CT heu hiu hRu qm qr hsl hrl HIZ HI6 HF6 H3 HT
  by_cases t0 : m0 ≤ r0
  case neg =>
    have E := Lib.hid (HR'.out.trans (show _ = false by simp [t0]))
    go_wp2
    refine wp_loop_rounds 1 ?_
    rw [rounds_succ]
    go_wp2
    go_ret
    exact ⟨ret_bool E.out.symm, HBu.out⟩
  by_cases t1 : m1 ≤ r1
  case neg =>
    have E := Lib.hid (HR'.out.trans (show _ = false by simp [t1]))
    go_wp2
    refine wp_loop_rounds 2 ?_
    rw [rounds_succ]
    go_wp2
    rw [rounds_succ]
    go_wp2
    go_ret
    exact ⟨ret_bool E.out.symm, HBu.out⟩
  by_cases t2 : m2 ≤ r2
  case neg =>
    have E := Lib.hid (HR'.out.trans (show _ = false by simp [t2]))
    go_wp2
    refine wp_loop_rounds 3 ?_
    rw [rounds_succ]
    go_wp2
    rw [rounds_succ]
    go_wp2
    rw [rounds_succ]
    go_wp2
    go_ret
    exact ⟨ret_bool E.out.symm, HBu.out⟩
  have E := Lib.hid (HR'.out.trans (show _ = true by simp [t0, t1, t2]))
  go_wp2
  refine wp_loop_rounds 4 ?_
  rw [rounds_succ]
  go_wp2
  rw [rounds_succ]
  go_wp2
  rw [rounds_succ]
  go_wp2
  rw [rounds_succ]
  go_wp2
  go_ret
  exact ⟨ret_bool E.out.symm, HBu.out⟩
end Go.Proofs.Ytolnpbpeifpbjaa
