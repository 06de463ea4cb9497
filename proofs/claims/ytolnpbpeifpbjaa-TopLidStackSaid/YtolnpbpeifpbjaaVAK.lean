/- Part of the proof: what the claim leans on. -/
import Derived.Test.YtolnpbpeifpbjaaVAI
import Derived.Test.YtolnpbpeifpbjaaVAB
import Derived.Test.YtolnpbpeifpbjaaVAC
import Derived.Test.YtolnpbpeifpbjaaVAJ
set_option maxHeartbeats 4000000
set_option maxRecDepth 100000
set_option linter.unusedSimpArgs false
set_option linter.unusedVariables false
namespace Go.Proofs.Ytolnpbpeifpbjaa
open Go.RowKit
theorem bo_within1_any (n lo hi : Int) (a b : Addr) (w : World) (ha : w.cell? a = some (.int .i64 lo)) (hb : w.cell? b = some (.int .i64 hi)) :
    Calls Try.prog 103 #[.int .i64 n, .pointer (some a), .pointer (some b)] w fun e w' => e = .returned (.bool (decide (n < lo) || decide (hi < n))) ∧ Below w.heap.size w w' := by
  by_cases h : n < lo
  · go_enter Try.func103, Try.ntmps103
    go_wp2
    go_ret
    exact ⟨by simp [h], Below.refl _ _⟩
  · go_enter Try.func103, Try.ntmps103
    go_wp2
    go_ret
    exact ⟨by simp; omega, Below.refl _ _⟩
theorem bo_pred_within (lo hi : Int) (a b : Addr) (xs : List Int) (w : World) (ha : w.cell? a = some (.int .i64 lo)) (hb : w.cell? b = some (.int .i64 hi)) (la : a.block < w.heap.size) (lb : b.block < w.heap.size) :
    Pred 103 #[.pointer (some a), .pointer (some b)] (Value.int .i64) (fun n => decide (n < lo) || decide (hi < n)) xs w :=
  fun x _ w1 h1 => bo_within1_any x lo hi a b w1 ((h1.cell la).trans ha) ((h1.cell lb).trans hb)
theorem bo_within_any (lo hi : Int) (a : Option Addr) (n c : Nat) (xs : List Int) (w : World) (h : Ii w a n c xs) :
    Calls Try.prog 80 #[.int .i64 lo, .int .i64 hi, .slice a n c] w fun e w' => e = .returned (.bool (within lo hi xs)) ∧ Below w.heap.size w w' := by
  have H := Lib.hid h
  clear h
  have hb2 : Below w.heap.size w ((w.alloc (.cells #[.int .i64 lo] 3)).alloc (.cells #[.int .i64 hi] 3)) := ((Below.refl _ _).alloc (Nat.le_refl _) _).alloc (by simp) _
  have C := Lib.hid (containsFunc_ints 103 Try.call103 _ (fun n => decide (n < lo) || decide (hi < n)) a n c xs _ (H.out.below hb2 (Nat.le_refl _))
    (bo_pred_within lo hi ⟨w.heap.size, 0, none⟩ ⟨w.heap.size + 1, 0, none⟩ xs _ (by simp) (by simp) (by simp; omega) (by simp)))
  have Hb := Lib.hid hb2
  clear hb2
  go_enter Try.func80, Try.ntmps80
  go_wp2_with ((with_reducible refine (C.out).mono ?_); rintro e w2 ⟨rfl, hb2⟩)
  go_ret
  exact ⟨rfl, Hb.out.trans (hb2.mono (by simp; omega))⟩
theorem bo_isSpan_any (lo hi : Int) (least most : Int) (w : World) :
    Calls Try.prog 119 #[.agg #[.int .i64 lo, .int .i64 hi], .int .i64 least, .int .i64 most] w fun e w' => e = .returned (.bool (isSpan (lo, hi) least most)) ∧ Below w.heap.size w w' := by
  by_cases hw : within least most [lo, hi] = true
  · go_enter Try.func119, Try.ntmps119
    go_wp2_with (refine (bo_within_any least most _ _ _ [lo, hi] _ (ii_two _ _ _ _ _ (by simp))).mono ?_; rintro e w2 ⟨rfl, hb2⟩; rw [hw]; obtain ⟨hc2, hf2⟩ := bcell hb2)
    all_goals go_ret
    exact ⟨by simp [isSpan, hw], (((Below.refl _ _).alloc (Nat.le_refl _) _).alloc (by simp) _).trans (hb2.mono (by simp; omega))⟩
  · have hw' : within least most [lo, hi] = false := by simpa using hw
    go_enter Try.func119, Try.ntmps119
    go_wp2_with (refine (bo_within_any least most _ _ _ [lo, hi] _ (ii_two _ _ _ _ _ (by simp))).mono ?_; rintro e w2 ⟨rfl, hb2⟩; rw [hw'])
    all_goals go_ret
    exact ⟨by simp [isSpan, hw'], (((Below.refl _ _).alloc (Nat.le_refl _) _).alloc (by simp) _).trans (hb2.mono (by simp; omega))⟩
theorem isPaper_1 (wt x1 x2 y1 y2 pr st : Int) (w : World) (hw : within 1 1000 [wt] = true) (hx : isSpan (x1, x2) 1 1000 = true) (hy : isSpan (y1, y2) 0 200 = true) (hp : within 0 1000000 [pr] = true) (hst : within 0 10000 [st] = true) :
  Calls Try.prog 99 #[.agg #[.int .i64 1, .int .i64 wt, .int .i64 x1, .int .i64 x2, .int .i64 y1, .int .i64 y2, .int .i64 pr, .int .i64 st]] w (fun e w' => e = .returned (.bool true) ∧ Below w.heap.size w w') := by
 refine calls_fr Try.func99 Try.ntmps99 rfl rfl fun g hg => ?_
 have k0 : g 0 = .agg #[.int .i64 1, .int .i64 wt, .int .i64 x1, .int .i64 x2, .int .i64 y1, .int .i64 y2, .int .i64 pr, .int .i64 st] := hg 0
 clear hg
 have fB0 : Below w.heap.size w w := Below.refl _ _
 refine rw_ 2 [(1, 0), (2, 1)] [[], []] (rel [bx 0 #[.int .i64 1, .int .i64 wt, .int .i64 x1, .int .i64 x2, .int .i64 y1, .int .i64 y2, .int .i64 pr, .int .i64 st] 103, iB false])
  ⟨fun f s W i j k l m a => opb rfl rfl (by simp [go_sem, a.e 0 k0]),
  fun f s W i j k l m a => opz, trivial⟩ ?_
 intro f1 s1 W1 hB1 g1 hg1 z1
 obtain ⟨r1_0, br1_0⟩ := hB1.is 0
 have lr1_0 := hB1.lr 0 br1_0
 have k1_1 := kt hg1 1 r1_0
 refine rx 37 [(3, 0), (4, 1), (5, 2), (6, 3), (7, 4), (8, 5), (9, 6), (10, 7), (11, 8), (12, 9), (13, 10), (14, 11), (15, 12), (16, 13), (17, 14), (18, 15), (19, 16), (20, 17), (21, 18), (22, 19), (23, 20), (24, 21), (25, 22), (26, 23), (27, 24), (28, 25), (29, 26), (30, 27), (31, 28), (32, 29), (33, 30), (34, 31), (35, 32), (36, 33), (37, 34), (38, 35), (2, 36)] [[], [0], [1], [2], [3], [3], [3], [3], [7], [8], [8, 9], [8, 10], [8, 11], [8, 12], [13], [14], [14, 15], [14, 16], [14, 17], [18], [19], [19, 20], [19, 21], [19, 22], [23], [24], [24, 25], [24, 26], [24, 27], [24, 28], [29], [30], [30, 31], [30, 32], [30, 33], [30, 34], [35]] (rel [is (.pointer (some ⟨(s1 0), 0, none⟩)), iI 1, iB true, iB true, gd (true) false (fun _ _ _ => True), gd (true) false (fun _ _ _ => True), gd (true) false (fun _ _ _ => True), iB true, iB true, is (.pointer (some ⟨(s1 0), 1, none⟩)), iI wt, row 11 1 #[.int .i64 wt] 3, iB true, iB true, iB true, is (.pointer (some ⟨(s1 0), 2, none⟩)), is (.agg #[.int .i64 x1, .int .i64 x2]), iB true, iB true, iB true, is (.pointer (some ⟨(s1 0), 4, none⟩)), is (.agg #[.int .i64 y1, .int .i64 y2]), iB true, iB true, iB true, is (.pointer (some ⟨(s1 0), 6, none⟩)), iI pr, row 27 1 #[.int .i64 pr] 3, iB true, iB true, iB true, is (.pointer (some ⟨(s1 0), 7, none⟩)), iI st, row 33 1 #[.int .i64 st] 3, iB true, iB true, iB true])
  ⟨is_k, is_k, is_k, is_k, gdt_k, gdt_k, gdt_k, is_k, is_k, is_k, is_k, row_k, is_k, is_k, is_k, is_k, is_k, is_k, is_k, is_k, is_k, is_k, is_k, is_k, is_k, is_k, is_k, row_k, is_k, is_k, is_k, is_k, is_k, row_k, is_k, is_k, is_k, trivial⟩
  ⟨fun f s W i j k l m a => opv rfl rfl (by simp [go_sem, a.e 1 k1_1]) rfl,
  fun f s W i j k l m a => opv rfl rfl (by simp [go_sem, a.e 3 (j 0 rfl), cb br1_0 i 0]) rfl,
  fun f s W i j k l m a => opv rfl rfl (by simp [go_sem, a.e 4 (j 1 rfl)]) rfl,
  fun f s W i j k l m a => opm (a.v 5 (j 2 rfl)),
  fun f s W i j k l m a => gno (a.says (d := 6) rfl rfl (j 3 rfl)),
  fun f s W i j k l m a => gno (a.says (d := 6) rfl rfl (j 3 rfl)),
  fun f s W i j k l m a => gno (a.says (d := 6) rfl rfl (j 3 rfl)),
  fun f s W i j k l m a => opk (c := true) rfl rfl (fun h => absurd h (by decide)) (fun _ => by simp [go_sem, a.e 6 (j 3 rfl)]),
  fun f s W i j k l m a => opm (a.v 10 (j 7 rfl)),
  fun f s W i j k l m a => osure rfl rfl (a.says (d := 11) rfl rfl (j 8 rfl)) (gv (by simp [go_sem, a.e 1 k1_1]) rfl),
  fun f s W i j k l m a => osure rfl rfl (a.says (d := 11) rfl rfl (j 8 rfl)) (gv (by simp [go_sem, a.e 12 (j 9 rfl), cb br1_0 i 1]) rfl),
  fun f s W i j k l m a => osure rfl rfl (a.says (d := 11) rfl rfl (j 8 rfl)) (gr (by simp [go_sem, a.e 13 (j 10 rfl)])),
  fun f s W i j k l m a => osure rfl rfl (a.says (d := 11) rfl rfl (j 8 rfl)) (wp_called (args := #[.int .i64 1, .int .i64 1000, .slice (some ⟨(s 11), 0, none⟩) (1) (1)]) (by simp [go_sem, a.e 14 (j 11 rfl).1]) (bo_within_any (1) (1000) _ 1 1 [wt] W (ii_block (xs := [wt]) (j 11 rfl).2 rfl rfl)) ((fun e W' h => by have h1 := h.1; rw [hw] at h1; exact ⟨_, h1, h.2, rfl⟩))),
  fun f s W i j k l m a => opk (c := true) rfl rfl (fun h => absurd h (by decide)) (fun _ => by simp [go_sem, a.e 11 (j 8 rfl), a.e 15 (j 12 rfl)]),
  fun f s W i j k l m a => opm (a.v 16 (j 13 rfl)),
  fun f s W i j k l m a => osure rfl rfl (a.says (d := 17) rfl rfl (j 14 rfl)) (gv (by simp [go_sem, a.e 1 k1_1]) rfl),
  fun f s W i j k l m a => osure rfl rfl (a.says (d := 17) rfl rfl (j 14 rfl)) (gv (by simp [go_sem, a.e 18 (j 15 rfl), cb br1_0 i 2, cb br1_0 i 3]) rfl),
  fun f s W i j k l m a => osure rfl rfl (a.says (d := 17) rfl rfl (j 14 rfl)) (wp_called (by simp [go_sem, a.e 19 (j 16 rfl)]) (bo_isSpan_any (x1) (x2) (1) (1000) W) ((fun e W' h => by have h1 := h.1; rw [hx] at h1; exact ⟨_, h1, h.2, rfl⟩))),
  fun f s W i j k l m a => opk (c := true) rfl rfl (fun h => absurd h (by decide)) (fun _ => by simp [go_sem, a.e 17 (j 14 rfl), a.e 20 (j 17 rfl)]),
  fun f s W i j k l m a => opm (a.v 21 (j 18 rfl)),
  fun f s W i j k l m a => osure rfl rfl (a.says (d := 22) rfl rfl (j 19 rfl)) (gv (by simp [go_sem, a.e 1 k1_1]) rfl),
  fun f s W i j k l m a => osure rfl rfl (a.says (d := 22) rfl rfl (j 19 rfl)) (gv (by simp [go_sem, a.e 23 (j 20 rfl), cb br1_0 i 4, cb br1_0 i 5]) rfl),
  fun f s W i j k l m a => osure rfl rfl (a.says (d := 22) rfl rfl (j 19 rfl)) (wp_called (by simp [go_sem, a.e 24 (j 21 rfl)]) (bo_isSpan_any (y1) (y2) (0) (200) W) ((fun e W' h => by have h1 := h.1; rw [hy] at h1; exact ⟨_, h1, h.2, rfl⟩))),
  fun f s W i j k l m a => opk (c := true) rfl rfl (fun h => absurd h (by decide)) (fun _ => by simp [go_sem, a.e 22 (j 19 rfl), a.e 25 (j 22 rfl)]),
  fun f s W i j k l m a => opm (a.v 26 (j 23 rfl)),
  fun f s W i j k l m a => osure rfl rfl (a.says (d := 27) rfl rfl (j 24 rfl)) (gv (by simp [go_sem, a.e 1 k1_1]) rfl),
  fun f s W i j k l m a => osure rfl rfl (a.says (d := 27) rfl rfl (j 24 rfl)) (gv (by simp [go_sem, a.e 28 (j 25 rfl), cb br1_0 i 6]) rfl),
  fun f s W i j k l m a => osure rfl rfl (a.says (d := 27) rfl rfl (j 24 rfl)) (gr (by simp [go_sem, a.e 29 (j 26 rfl)])),
  fun f s W i j k l m a => osure rfl rfl (a.says (d := 27) rfl rfl (j 24 rfl)) (wp_called (args := #[.int .i64 0, .int .i64 1000000, .slice (some ⟨(s 27), 0, none⟩) (1) (1)]) (by simp [go_sem, a.e 30 (j 27 rfl).1]) (bo_within_any (0) (1000000) _ 1 1 [pr] W (ii_block (xs := [pr]) (j 27 rfl).2 rfl rfl)) ((fun e W' h => by have h1 := h.1; rw [hp] at h1; exact ⟨_, h1, h.2, rfl⟩))),
  fun f s W i j k l m a => opk (c := true) rfl rfl (fun h => absurd h (by decide)) (fun _ => by simp [go_sem, a.e 27 (j 24 rfl), a.e 31 (j 28 rfl)]),
  fun f s W i j k l m a => opm (a.v 32 (j 29 rfl)),
  fun f s W i j k l m a => osure rfl rfl (a.says (d := 33) rfl rfl (j 30 rfl)) (gv (by simp [go_sem, a.e 1 k1_1]) rfl),
  fun f s W i j k l m a => osure rfl rfl (a.says (d := 33) rfl rfl (j 30 rfl)) (gv (by simp [go_sem, a.e 34 (j 31 rfl), cb br1_0 i 7]) rfl),
  fun f s W i j k l m a => osure rfl rfl (a.says (d := 33) rfl rfl (j 30 rfl)) (gr (by simp [go_sem, a.e 35 (j 32 rfl)])),
  fun f s W i j k l m a => osure rfl rfl (a.says (d := 33) rfl rfl (j 30 rfl)) (wp_called (args := #[.int .i64 0, .int .i64 10000, .slice (some ⟨(s 33), 0, none⟩) (1) (1)]) (by simp [go_sem, a.e 36 (j 33 rfl).1]) (bo_within_any (0) (10000) _ 1 1 [st] W (ii_block (xs := [st]) (j 33 rfl).2 rfl rfl)) ((fun e W' h => by have h1 := h.1; rw [hst] at h1; exact ⟨_, h1, h.2, rfl⟩))),
  fun f s W i j k l m a => opk (c := true) rfl rfl (fun h => absurd h (by decide)) (fun _ => by simp [go_sem, a.e 33 (j 30 rfl), a.e 37 (j 34 rfl)]),
  fun f s W i j k l m a => opm (a.v 38 (j 35 rfl)), trivial⟩ ?_
 intro f2 s2 W2 hB2 g2 hg2 z2
 have fB2 := hB2.f (hB1.f fB0)
 obtain ⟨r2_11, br2_11⟩ := hB2.is 11
 have lr2_11 := hB2.lr 11 br2_11
 obtain ⟨r2_27, br2_27⟩ := hB2.is 27
 have lr2_27 := hB2.lr 27 br2_27
 obtain ⟨r2_33, br2_33⟩ := hB2.is 33
 have lr2_33 := hB2.lr 33 br2_33
 have ne2_11_27 := hB2.nb 11 27
 have ne2_11_33 := hB2.nb 11 33
 have ne2_27_33 := hB2.nb 27 33
 have k2_2 := kt hg2 2 (hB2.is 36)
 refine wp_ret ?_
 refine leave_one (N := 39) (.inr rfl) Try.results99 rfl k2_2 ?_
 exact ⟨rfl, fB2⟩
theorem isPaper_2 (wt x1 x2 y1 y2 pr st : Int) (w : World) (hw : within 1 1000 [wt] = true) (hx : isSpan (x1, x2) 1 1000 = true) (hy : isSpan (y1, y2) 0 200 = true) (hp : within 0 1000000 [pr] = true) (hst : within 0 10000 [st] = true) :
  Calls Try.prog 99 #[.agg #[.int .i64 2, .int .i64 wt, .int .i64 x1, .int .i64 x2, .int .i64 y1, .int .i64 y2, .int .i64 pr, .int .i64 st]] w (fun e w' => e = .returned (.bool true) ∧ Below w.heap.size w w') := by
 refine calls_fr Try.func99 Try.ntmps99 rfl rfl fun g hg => ?_
 have k0 : g 0 = .agg #[.int .i64 2, .int .i64 wt, .int .i64 x1, .int .i64 x2, .int .i64 y1, .int .i64 y2, .int .i64 pr, .int .i64 st] := hg 0
 clear hg
 have fB0 : Below w.heap.size w w := Below.refl _ _
 refine rw_ 2 [(1, 0), (2, 1)] [[], []] (rel [bx 0 #[.int .i64 2, .int .i64 wt, .int .i64 x1, .int .i64 x2, .int .i64 y1, .int .i64 y2, .int .i64 pr, .int .i64 st] 103, iB false])
  ⟨fun f s W i j k l m a => opb rfl rfl (by simp [go_sem, a.e 0 k0]),
  fun f s W i j k l m a => opz, trivial⟩ ?_
 intro f1 s1 W1 hB1 g1 hg1 z1
 obtain ⟨r1_0, br1_0⟩ := hB1.is 0
 have lr1_0 := hB1.lr 0 br1_0
 have k1_1 := kt hg1 1 r1_0
 refine rw_ 37 [(3, 0), (4, 1), (5, 2), (6, 3), (7, 4), (8, 5), (9, 6), (10, 7), (11, 8), (12, 9), (13, 10), (14, 11), (15, 12), (16, 13), (17, 14), (18, 15), (19, 16), (20, 17), (21, 18), (22, 19), (23, 20), (24, 21), (25, 22), (26, 23), (27, 24), (28, 25), (29, 26), (30, 27), (31, 28), (32, 29), (33, 30), (34, 31), (35, 32), (36, 33), (37, 34), (38, 35), (2, 36)] [[], [0], [1], [2], [3], [3, 4], [3, 5], [3, 6], [7], [8], [8, 9], [8, 10], [8, 11], [8, 12], [13], [14], [14, 15], [14, 16], [14, 17], [18], [19], [19, 20], [19, 21], [19, 22], [23], [24], [24, 25], [24, 26], [24, 27], [24, 28], [29], [30], [30, 31], [30, 32], [30, 33], [30, 34], [35]] (rel [is (.pointer (some ⟨(s1 0), 0, none⟩)), iI 2, iB false, iB false, is (.pointer (some ⟨(s1 0), 0, none⟩)), iI 2, iB true, iB true, iB true, is (.pointer (some ⟨(s1 0), 1, none⟩)), iI wt, row 11 1 #[.int .i64 wt] 3, iB true, iB true, iB true, is (.pointer (some ⟨(s1 0), 2, none⟩)), is (.agg #[.int .i64 x1, .int .i64 x2]), iB true, iB true, iB true, is (.pointer (some ⟨(s1 0), 4, none⟩)), is (.agg #[.int .i64 y1, .int .i64 y2]), iB true, iB true, iB true, is (.pointer (some ⟨(s1 0), 6, none⟩)), iI pr, row 27 1 #[.int .i64 pr] 3, iB true, iB true, iB true, is (.pointer (some ⟨(s1 0), 7, none⟩)), iI st, row 33 1 #[.int .i64 st] 3, iB true, iB true, iB true])
  ⟨fun f s W i j k l m a => opv rfl rfl (by simp [go_sem, a.e 1 k1_1]) rfl,
  fun f s W i j k l m a => opv rfl rfl (by simp [go_sem, a.e 3 (j 0 rfl), cb br1_0 i 0]) rfl,
  fun f s W i j k l m a => opv rfl rfl (by simp [go_sem, a.e 4 (j 1 rfl)]) rfl,
  fun f s W i j k l m a => opm (a.v 5 (j 2 rfl)),
  fun f s W i j k l m a => osure rfl rfl (a.says (d := 6) rfl rfl (j 3 rfl)) (gv (by simp [go_sem, a.e 1 k1_1]) rfl),
  fun f s W i j k l m a => osure rfl rfl (a.says (d := 6) rfl rfl (j 3 rfl)) (gv (by simp [go_sem, a.e 7 (j 4 rfl), cb br1_0 i 0]) rfl),
  fun f s W i j k l m a => osure rfl rfl (a.says (d := 6) rfl rfl (j 3 rfl)) (gv (by simp [go_sem, a.e 8 (j 5 rfl)]) rfl),
  fun f s W i j k l m a => opk (c := false) rfl rfl (fun _ => by simp [go_sem, a.e 6 (j 3 rfl), a.e 9 (j 6 rfl)]) (fun h => absurd h (by decide)),
  fun f s W i j k l m a => opm (a.v 10 (j 7 rfl)),
  fun f s W i j k l m a => osure rfl rfl (a.says (d := 11) rfl rfl (j 8 rfl)) (gv (by simp [go_sem, a.e 1 k1_1]) rfl),
  fun f s W i j k l m a => osure rfl rfl (a.says (d := 11) rfl rfl (j 8 rfl)) (gv (by simp [go_sem, a.e 12 (j 9 rfl), cb br1_0 i 1]) rfl),
  fun f s W i j k l m a => osure rfl rfl (a.says (d := 11) rfl rfl (j 8 rfl)) (gr (by simp [go_sem, a.e 13 (j 10 rfl)])),
  fun f s W i j k l m a => osure rfl rfl (a.says (d := 11) rfl rfl (j 8 rfl)) (wp_called (args := #[.int .i64 1, .int .i64 1000, .slice (some ⟨(s 11), 0, none⟩) (1) (1)]) (by simp [go_sem, a.e 14 (j 11 rfl).1]) (bo_within_any (1) (1000) _ 1 1 [wt] W (ii_block (xs := [wt]) (j 11 rfl).2 rfl rfl)) ((fun e W' h => by have h1 := h.1; rw [hw] at h1; exact ⟨_, h1, h.2, rfl⟩))),
  fun f s W i j k l m a => opk (c := true) rfl rfl (fun h => absurd h (by decide)) (fun _ => by simp [go_sem, a.e 11 (j 8 rfl), a.e 15 (j 12 rfl)]),
  fun f s W i j k l m a => opm (a.v 16 (j 13 rfl)),
  fun f s W i j k l m a => osure rfl rfl (a.says (d := 17) rfl rfl (j 14 rfl)) (gv (by simp [go_sem, a.e 1 k1_1]) rfl),
  fun f s W i j k l m a => osure rfl rfl (a.says (d := 17) rfl rfl (j 14 rfl)) (gv (by simp [go_sem, a.e 18 (j 15 rfl), cb br1_0 i 2, cb br1_0 i 3]) rfl),
  fun f s W i j k l m a => osure rfl rfl (a.says (d := 17) rfl rfl (j 14 rfl)) (wp_called (by simp [go_sem, a.e 19 (j 16 rfl)]) (bo_isSpan_any (x1) (x2) (1) (1000) W) ((fun e W' h => by have h1 := h.1; rw [hx] at h1; exact ⟨_, h1, h.2, rfl⟩))),
  fun f s W i j k l m a => opk (c := true) rfl rfl (fun h => absurd h (by decide)) (fun _ => by simp [go_sem, a.e 17 (j 14 rfl), a.e 20 (j 17 rfl)]),
  fun f s W i j k l m a => opm (a.v 21 (j 18 rfl)),
  fun f s W i j k l m a => osure rfl rfl (a.says (d := 22) rfl rfl (j 19 rfl)) (gv (by simp [go_sem, a.e 1 k1_1]) rfl),
  fun f s W i j k l m a => osure rfl rfl (a.says (d := 22) rfl rfl (j 19 rfl)) (gv (by simp [go_sem, a.e 23 (j 20 rfl), cb br1_0 i 4, cb br1_0 i 5]) rfl),
  fun f s W i j k l m a => osure rfl rfl (a.says (d := 22) rfl rfl (j 19 rfl)) (wp_called (by simp [go_sem, a.e 24 (j 21 rfl)]) (bo_isSpan_any (y1) (y2) (0) (200) W) ((fun e W' h => by have h1 := h.1; rw [hy] at h1; exact ⟨_, h1, h.2, rfl⟩))),
  fun f s W i j k l m a => opk (c := true) rfl rfl (fun h => absurd h (by decide)) (fun _ => by simp [go_sem, a.e 22 (j 19 rfl), a.e 25 (j 22 rfl)]),
  fun f s W i j k l m a => opm (a.v 26 (j 23 rfl)),
  fun f s W i j k l m a => osure rfl rfl (a.says (d := 27) rfl rfl (j 24 rfl)) (gv (by simp [go_sem, a.e 1 k1_1]) rfl),
  fun f s W i j k l m a => osure rfl rfl (a.says (d := 27) rfl rfl (j 24 rfl)) (gv (by simp [go_sem, a.e 28 (j 25 rfl), cb br1_0 i 6]) rfl),
  fun f s W i j k l m a => osure rfl rfl (a.says (d := 27) rfl rfl (j 24 rfl)) (gr (by simp [go_sem, a.e 29 (j 26 rfl)])),
  fun f s W i j k l m a => osure rfl rfl (a.says (d := 27) rfl rfl (j 24 rfl)) (wp_called (args := #[.int .i64 0, .int .i64 1000000, .slice (some ⟨(s 27), 0, none⟩) (1) (1)]) (by simp [go_sem, a.e 30 (j 27 rfl).1]) (bo_within_any (0) (1000000) _ 1 1 [pr] W (ii_block (xs := [pr]) (j 27 rfl).2 rfl rfl)) ((fun e W' h => by have h1 := h.1; rw [hp] at h1; exact ⟨_, h1, h.2, rfl⟩))),
  fun f s W i j k l m a => opk (c := true) rfl rfl (fun h => absurd h (by decide)) (fun _ => by simp [go_sem, a.e 27 (j 24 rfl), a.e 31 (j 28 rfl)]),
  fun f s W i j k l m a => opm (a.v 32 (j 29 rfl)),
  fun f s W i j k l m a => osure rfl rfl (a.says (d := 33) rfl rfl (j 30 rfl)) (gv (by simp [go_sem, a.e 1 k1_1]) rfl),
  fun f s W i j k l m a => osure rfl rfl (a.says (d := 33) rfl rfl (j 30 rfl)) (gv (by simp [go_sem, a.e 34 (j 31 rfl), cb br1_0 i 7]) rfl),
  fun f s W i j k l m a => osure rfl rfl (a.says (d := 33) rfl rfl (j 30 rfl)) (gr (by simp [go_sem, a.e 35 (j 32 rfl)])),
  fun f s W i j k l m a => osure rfl rfl (a.says (d := 33) rfl rfl (j 30 rfl)) (wp_called (args := #[.int .i64 0, .int .i64 10000, .slice (some ⟨(s 33), 0, none⟩) (1) (1)]) (by simp [go_sem, a.e 36 (j 33 rfl).1]) (bo_within_any (0) (10000) _ 1 1 [st] W (ii_block (xs := [st]) (j 33 rfl).2 rfl rfl)) ((fun e W' h => by have h1 := h.1; rw [hst] at h1; exact ⟨_, h1, h.2, rfl⟩))),
  fun f s W i j k l m a => opk (c := true) rfl rfl (fun h => absurd h (by decide)) (fun _ => by simp [go_sem, a.e 33 (j 30 rfl), a.e 37 (j 34 rfl)]),
  fun f s W i j k l m a => opm (a.v 38 (j 35 rfl)), trivial⟩ ?_
 intro f2 s2 W2 hB2 g2 hg2 z2
 have fB2 := hB2.f (hB1.f fB0)
 obtain ⟨r2_11, br2_11⟩ := hB2.is 11
 have lr2_11 := hB2.lr 11 br2_11
 obtain ⟨r2_27, br2_27⟩ := hB2.is 27
 have lr2_27 := hB2.lr 27 br2_27
 obtain ⟨r2_33, br2_33⟩ := hB2.is 33
 have lr2_33 := hB2.lr 33 br2_33
 have ne2_11_27 := hB2.nb 11 27
 have ne2_11_33 := hB2.nb 11 33
 have ne2_27_33 := hB2.nb 27 33
 have k2_2 := kt hg2 2 (hB2.is 36)
 refine wp_ret ?_
 refine leave_one (N := 39) (.inr rfl) Try.results99 rfl k2_2 ?_
 exact ⟨rfl, fB2⟩
theorem isFlute_1 (pi dr x1 x2 : Int) (w : World) (gpi : 0 ≤ pi ∧ pi ≤ 10000) (hw : within 1000 10000 [pi] = true) (hd' : within pi (2 * pi) [dr] = true) (hx : isSpan (x1, x2) 1 10000 = true) :
  Calls Try.prog 102 #[.agg #[.int .i64 pi, .int .i64 dr, .int .i64 x1, .int .i64 x2]] w (fun e w' => e = .returned (.bool true) ∧ Below w.heap.size w w') := by
 refine calls_fr Try.func102 Try.ntmps102 rfl rfl fun g hg => ?_
 have k0 : g 0 = .agg #[.int .i64 pi, .int .i64 dr, .int .i64 x1, .int .i64 x2] := hg 0
 clear hg
 have fB0 : Below w.heap.size w w := Below.refl _ _
 refine rw_ 2 [(1, 0), (2, 1)] [[], []] (rel [bx 0 #[.int .i64 pi, .int .i64 dr, .int .i64 x1, .int .i64 x2] 105, iB false])
  ⟨fun f s W i j k l m a => opb rfl rfl (by simp [go_sem, a.e 0 k0]),
  fun f s W i j k l m a => opz, trivial⟩ ?_
 intro f1 s1 W1 hB1 g1 hg1 z1
 obtain ⟨r1_0, br1_0⟩ := hB1.is 0
 have lr1_0 := hB1.lr 0 br1_0
 have k1_1 := kt hg1 1 r1_0
 refine rw_ 21 [(3, 0), (4, 1), (5, 2), (6, 3), (7, 4), (8, 5), (9, 6), (10, 7), (11, 8), (12, 9), (13, 10), (14, 11), (15, 12), (16, 13), (17, 14), (18, 15), (19, 16), (20, 17), (21, 18), (22, 19), (2, 20)] [[], [0], [1], [2], [3], [4], [4, 5], [4], [4, 7], [4, 8], [4], [4, 10], [4, 11], [4, 6, 9, 12], [4, 13], [14], [15], [15, 16], [15, 17], [15, 18], [19]] (rel [is (.pointer (some ⟨(s1 0), 0, none⟩)), iI pi, row 2 1 #[.int .i64 pi] 3, iB true, iB true, is (.pointer (some ⟨(s1 0), 0, none⟩)), iI pi, is (.pointer (some ⟨(s1 0), 0, none⟩)), iI pi, iI (2 * pi), is (.pointer (some ⟨(s1 0), 1, none⟩)), iI dr, row 12 1 #[.int .i64 dr] 3, iB true, iB true, iB true, is (.pointer (some ⟨(s1 0), 2, none⟩)), is (.agg #[.int .i64 x1, .int .i64 x2]), iB true, iB true, iB true])
  ⟨fun f s W i j k l m a => opv rfl rfl (by simp [go_sem, a.e 1 k1_1]) rfl,
  fun f s W i j k l m a => opv rfl rfl (by simp [go_sem, a.e 3 (j 0 rfl), cb br1_0 i 0]) rfl,
  fun f s W i j k l m a => opr rfl rfl (by simp [go_sem, a.e 4 (j 1 rfl)]),
  fun f s W i j k l m a => opd (args := #[.int .i64 1000, .int .i64 10000, .slice (some ⟨(s 2), 0, none⟩) (1) (1)]) rfl rfl (by simp [go_sem, a.e 5 (j 2 rfl).1]) (bo_within_any (1000) (10000) _ 1 1 [pi] W (ii_block (xs := [pi]) (j 2 rfl).2 rfl rfl)) ((fun e W' h => by have h1 := h.1; rw [hw] at h1; exact ⟨_, h1, h.2, rfl⟩)),
  fun f s W i j k l m a => opm (a.v 6 (j 3 rfl)),
  fun f s W i j k l m a => osure rfl rfl (a.says (d := 7) rfl rfl (j 4 rfl)) (gv (by simp [go_sem, a.e 1 k1_1]) rfl),
  fun f s W i j k l m a => osure rfl rfl (a.says (d := 7) rfl rfl (j 4 rfl)) (gv (by simp [go_sem, a.e 8 (j 5 rfl), cb br1_0 i 0]) rfl),
  fun f s W i j k l m a => osure rfl rfl (a.says (d := 7) rfl rfl (j 4 rfl)) (gv (by simp [go_sem, a.e 1 k1_1]) rfl),
  fun f s W i j k l m a => osure rfl rfl (a.says (d := 7) rfl rfl (j 4 rfl)) (gv (by simp [go_sem, a.e 10 (j 7 rfl), cb br1_0 i 0]) rfl),
  fun f s W i j k l m a => osure rfl rfl (a.says (d := 7) rfl rfl (j 4 rfl)) (gv (by simp [go_sem, a.e 11 (j 8 rfl), IntWalk.i64_in (2 * pi) (by omega)]) rfl),
  fun f s W i j k l m a => osure rfl rfl (a.says (d := 7) rfl rfl (j 4 rfl)) (gv (by simp [go_sem, a.e 1 k1_1]) rfl),
  fun f s W i j k l m a => osure rfl rfl (a.says (d := 7) rfl rfl (j 4 rfl)) (gv (by simp [go_sem, a.e 13 (j 10 rfl), cb br1_0 i 1]) rfl),
  fun f s W i j k l m a => osure rfl rfl (a.says (d := 7) rfl rfl (j 4 rfl)) (gr (by simp [go_sem, a.e 14 (j 11 rfl)])),
  fun f s W i j k l m a => osure rfl rfl (a.says (d := 7) rfl rfl (j 4 rfl)) (wp_called (args := #[.int .i64 pi, .int .i64 (2 * pi), .slice (some ⟨(s 12), 0, none⟩) (1) (1)]) (by simp [go_sem, a.e 9 (j 6 rfl), a.e 12 (j 9 rfl), a.e 15 (j 12 rfl).1]) (bo_within_any (pi) (2 * pi) _ 1 1 [dr] W (ii_block (xs := [dr]) (j 12 rfl).2 rfl rfl)) ((fun e W' h => by have h1 := h.1; rw [hd'] at h1; exact ⟨_, h1, h.2, rfl⟩))),
  fun f s W i j k l m a => opk (c := true) rfl rfl (fun h => absurd h (by decide)) (fun _ => by simp [go_sem, a.e 7 (j 4 rfl), a.e 16 (j 13 rfl)]),
  fun f s W i j k l m a => opm (a.v 17 (j 14 rfl)),
  fun f s W i j k l m a => osure rfl rfl (a.says (d := 18) rfl rfl (j 15 rfl)) (gv (by simp [go_sem, a.e 1 k1_1]) rfl),
  fun f s W i j k l m a => osure rfl rfl (a.says (d := 18) rfl rfl (j 15 rfl)) (gv (by simp [go_sem, a.e 19 (j 16 rfl), cb br1_0 i 2, cb br1_0 i 3]) rfl),
  fun f s W i j k l m a => osure rfl rfl (a.says (d := 18) rfl rfl (j 15 rfl)) (wp_called (by simp [go_sem, a.e 20 (j 17 rfl)]) (bo_isSpan_any (x1) (x2) (1) (10000) W) ((fun e W' h => by have h1 := h.1; rw [hx] at h1; exact ⟨_, h1, h.2, rfl⟩))),
  fun f s W i j k l m a => opk (c := true) rfl rfl (fun h => absurd h (by decide)) (fun _ => by simp [go_sem, a.e 18 (j 15 rfl), a.e 21 (j 18 rfl)]),
  fun f s W i j k l m a => opm (a.v 22 (j 19 rfl)), trivial⟩ ?_
 intro f2 s2 W2 hB2 g2 hg2 z2
 have fB2 := hB2.f (hB1.f fB0)
 obtain ⟨r2_2, br2_2⟩ := hB2.is 2
 have lr2_2 := hB2.lr 2 br2_2
 obtain ⟨r2_12, br2_12⟩ := hB2.is 12
 have lr2_12 := hB2.lr 12 br2_12
 have ne2_2_12 := hB2.nb 2 12
 have k2_2 := kt hg2 2 (hB2.is 20)
 refine wp_ret ?_
 refine leave_one (N := 23) (.inr rfl) Try.results102 rfl k2_2 ?_
 exact ⟨rfl, fB2⟩
theorem isPaper_ok (p : Pa) (h : PaIn p) (w : World) : Calls Try.prog 99 #[.agg #[.int .i64 p.kind, .int .i64 p.weight, .int .i64 p.t1, .int .i64 p.t2, .int .i64 p.m1, .int .i64 p.m2, .int .i64 p.price, .int .i64 p.strong]] w (fun e w' => e = .returned (.bool true) ∧ Below w.heap.size w w') := by
  have hw := within_all1 h.weight
  have hx := span_yes h.thick
  have hy := span_yes h.moist
  have hp := within_all1 h.price
  have hs := within_all1 h.strong
  rcases h.kind with e | e
  · rw [e]; exact isPaper_1 p.weight p.t1 p.t2 p.m1 p.m2 p.price p.strong w hw hx hy hp hs
  · rw [e]; exact isPaper_2 p.weight p.t1 p.t2 p.m1 p.m2 p.price p.strong w hw hx hy hp hs
theorem isFlute_ok (q : Fu) (h : FuIn q) (w : World) : Calls Try.prog 102 #[.agg #[.int .i64 q.pitch, .int .i64 q.draw, .int .i64 q.h1, .int .i64 q.h2]] w (fun e w' => e = .returned (.bool true) ∧ Below w.heap.size w w') :=
  isFlute_1 q.pitch q.draw q.h1 q.h2 w (by have := h.pitch; omega) (within_all1 h.pitch) (within_all1 h.draw) (span_yes h.high)
theorem checkP (p : Pa) (hin : PaIn p) (w : World) :
  Calls Try.prog 98 #[.agg #[.int .i64 p.kind, .int .i64 p.weight, .int .i64 p.t1, .int .i64 p.t2, .int .i64 p.m1, .int .i64 p.m2, .int .i64 p.price, .int .i64 p.strong]] w (fun e w' => e = .returned (.bool false) ∧ Below w.heap.size w w') := by
 refine calls_fr Try.func98 Try.ntmps98 rfl rfl fun g hg => ?_
 have k0 : g 0 = .agg #[.int .i64 p.kind, .int .i64 p.weight, .int .i64 p.t1, .int .i64 p.t2, .int .i64 p.m1, .int .i64 p.m2, .int .i64 p.price, .int .i64 p.strong] := hg 0
 clear hg
 have fB0 : Below w.heap.size w w := Below.refl _ _
 refine rw_ 2 [(1, 0), (2, 1)] [[], []] (rel [bx 0 #[.int .i64 p.kind, .int .i64 p.weight, .int .i64 p.t1, .int .i64 p.t2, .int .i64 p.m1, .int .i64 p.m2, .int .i64 p.price, .int .i64 p.strong] 103, iB false])
  ⟨fun f s W c d h i j a => opb rfl rfl (by simp [go_sem, a.e 0 k0]),
  fun f s W c d h i j a => opz, trivial⟩ ?_
 intro f1 s1 W1 hB1 g1 hg1 z1
 obtain ⟨r1_0, br1_0⟩ := hB1.is 0
 have lr1_0 := hB1.lr 0 br1_0
 have k1_1 := kt hg1 1 r1_0
 refine rw_ 4 [(3, 0), (4, 1), (5, 2), (2, 3)] [[], [0], [1], [2]] (rel [is (.agg #[.int .i64 p.kind, .int .i64 p.weight, .int .i64 p.t1, .int .i64 p.t2, .int .i64 p.m1, .int .i64 p.m2, .int .i64 p.price, .int .i64 p.strong]), iB true, iB false, iB false])
  ⟨fun f s W c d h i j a => opv rfl rfl (by simp [go_sem, a.e 1 k1_1, cb br1_0 c 0, cb br1_0 c 1, cb br1_0 c 2, cb br1_0 c 3, cb br1_0 c 4, cb br1_0 c 5, cb br1_0 c 6, cb br1_0 c 7]) rfl,
  fun f s W c d h i j a => opc rfl rfl (by simp [go_sem, a.e 3 (d 0 rfl)]) (isPaper_ok p hin W),
  fun f s W c d h i j a => opv rfl rfl (by simp [go_sem, a.e 4 (d 1 rfl)]) rfl,
  fun f s W c d h i j a => opm (a.v 5 (d 2 rfl)), trivial⟩ ?_
 intro f2 s2 W2 hB2 g2 hg2 z2
 have fB2 := hB2.f (hB1.f fB0)
 have k2_2 := kt hg2 2 (hB2.is 3)
 refine wp_ret ?_
 refine leave_one (N := 6) (.inr rfl) Try.results98 rfl k2_2 ?_
 exact ⟨rfl, fB2⟩
theorem checkF (q : Fu) (hin : FuIn q) (w : World) :
  Calls Try.prog 101 #[.agg #[.int .i64 q.pitch, .int .i64 q.draw, .int .i64 q.h1, .int .i64 q.h2]] w (fun e w' => e = .returned (.bool false) ∧ Below w.heap.size w w') := by
 refine calls_fr Try.func101 Try.ntmps101 rfl rfl fun g hg => ?_
 have k0 : g 0 = .agg #[.int .i64 q.pitch, .int .i64 q.draw, .int .i64 q.h1, .int .i64 q.h2] := hg 0
 clear hg
 have fB0 : Below w.heap.size w w := Below.refl _ _
 refine rw_ 2 [(1, 0), (2, 1)] [[], []] (rel [bx 0 #[.int .i64 q.pitch, .int .i64 q.draw, .int .i64 q.h1, .int .i64 q.h2] 105, iB false])
  ⟨fun f s W c d h i j a => opb rfl rfl (by simp [go_sem, a.e 0 k0]),
  fun f s W c d h i j a => opz, trivial⟩ ?_
 intro f1 s1 W1 hB1 g1 hg1 z1
 obtain ⟨r1_0, br1_0⟩ := hB1.is 0
 have lr1_0 := hB1.lr 0 br1_0
 have k1_1 := kt hg1 1 r1_0
 refine rw_ 4 [(3, 0), (4, 1), (5, 2), (2, 3)] [[], [0], [1], [2]] (rel [is (.agg #[.int .i64 q.pitch, .int .i64 q.draw, .int .i64 q.h1, .int .i64 q.h2]), iB true, iB false, iB false])
  ⟨fun f s W c d h i j a => opv rfl rfl (by simp [go_sem, a.e 1 k1_1, cb br1_0 c 0, cb br1_0 c 1, cb br1_0 c 2, cb br1_0 c 3]) rfl,
  fun f s W c d h i j a => opc rfl rfl (by simp [go_sem, a.e 3 (d 0 rfl)]) (isFlute_ok q hin W),
  fun f s W c d h i j a => opv rfl rfl (by simp [go_sem, a.e 4 (d 1 rfl)]) rfl,
  fun f s W c d h i j a => opm (a.v 5 (d 2 rfl)), trivial⟩ ?_
 intro f2 s2 W2 hB2 g2 hg2 z2
 have fB2 := hB2.f (hB1.f fB0)
 have k2_2 := kt hg2 2 (hB2.is 3)
 refine wp_ret ?_
 refine leave_one (N := 6) (.inr rfl) Try.results101 rfl k2_2 ?_
 exact ⟨rfl, fB2⟩
theorem index_checkP (ps : Nat → Pa) (bb oo nn cc : Nat) (w : World) (h8 : nn ≤ 8) (hR : PaR w bb oo nn ps) (hin : ∀ i, i < nn → PaIn (ps i)) :
  Calls Try.prog 118 #[.slice (some ⟨bb, oo, none⟩) nn cc, .func (.func 98) #[] #[]] w (fun e w' => e = .returned (.int .i64 (-1)) ∧ Below w.heap.size w w') := by
 refine calls_fr Try.func118 Try.ntmps118 rfl rfl fun g hg => ?_
 have k0 : g 0 = .slice (some ⟨bb, oo, none⟩) nn cc := hg 0
 have k1 : g 1 = .func (.func 98) #[] #[] := hg 1
 clear hg
 have fB0 : Below w.heap.size w w := Below.refl _ _
 refine rw_ 1 [(4, 0)] [[]] (rel [iI 0])
  ⟨fun f s W b c d h j a => opz, trivial⟩ ?_
 intro f1 s1 W1 hB1 g1 hg1 z1
 have k1_0 := kt hg1 0 k0
 refine wp_seq_k fun K2 hK2 => ?_
 refine rw_ 3 [(6, 0), (7, 1), (8, 2)] [[], [0], []] (rel [is (.slice (some ⟨bb, oo, none⟩) nn cc), iI ((nn : Int)), iI 0])
  ⟨fun f s W b c d h j a => opm (a.v 0 k1_0),
  fun f s W b c d h j a => opv rfl rfl (by simp [go_sem, a.e 6 (c 0 rfl)]) rfl,
  fun f s W b c d h j a => opz, trivial⟩ ?_
 intro f2 s2 W2 hB2 g2 hg2 z2
 have fB2 := hB2.f (hB1.f fB0)
 have k2_0 := kt hg2 0 k1_0
 have k2_1 := kt hg2 1 (kt hg1 1 k1)
 have k2_4 := kt hg2 4 (kt hg1 4 (hB1.is 0))
 have k2_7 := kt hg2 7 (hB2.is 1)
 have k2_8 := kt hg2 8 (hB2.is 2)
 refine wp_block ?_
 refine wp_loop_n (fun m_ a_ W_ => ∃ g_ : Nat → Value, a_ = fr 19 g_ ∧ (∃ i : Nat, m_ = nn - i ∧ g_ 0 = .slice (some ⟨bb, oo, none⟩) nn cc ∧ g_ 1 = .func (.func 98) #[] #[] ∧ g_ 4 = .int .i64 0 ∧ g_ 7 = .int .i64 ((nn : Int)) ∧ g_ 8 = .int .i64 ((i : Int)) ∧ Below w.heap.size w W_ ∧ W2.heap.size ≤ W_.heap.size ∧ (i ≤ nn))) ⟨_, g2, rfl, 0, rfl, k2_0, k2_1, k2_4, k2_7, k2_8.trans (by rfl), fB2, Nat.le_refl _, (by omega)⟩ ?_
 rintro _ _ W_1 ⟨g_1, rfl, i, rfl, k_1_0, k_1_1, k_1_4, k_1_7, k_1_8, fB_1, z_1, lp0⟩
 refine rw_ 1 [(9, 0)] [[]] (rel [iB (decide ((i : Int) < (nn : Int)))])
  ⟨fun f s W b c d h j a => opv rfl rfl (by simp [go_sem, a.e 8 k_1_8, a.e 7 k_1_7]) rfl, trivial⟩ ?_
 intro f3 s3 W3 hB3 g3 hg3 z3
 have fB3 := hB3.f fB_1
 have k3_8 := kt hg3 8 k_1_8
 have k3_9 := kt hg3 9 (hB3.is 0)
 refine wp_seq_k fun K5 hK5 => ?_
 refine wp_cond_split (t := decide ((i : Int) < (nn : Int))) ((fr_eval rfl).trans k3_9) (fun hc6 => ?_) (fun hc6 => ?_)
 ·
  have hc6' := hc6; try simp only [ba] at hc6'
  have ln : i < nn := by omega
  have lz : (i : Int) < (nn : Int) := by omega
  have li := Nat.not_le.2 ln
  refine wp_skip ?_
  refine hK5 _ _ ?_
  refine wp_seq_k fun K7 hK7 => ?_
  refine wp_block ?_
  refine rw_ 2 [(10, 0), (5, 1)] [[], [0]] (rel [iI ((i : Int)), iI ((i : Int))])
   ⟨fun f s W b c d h j a => opm (a.v 8 k3_8),
  fun f s W b c d h j a => opm (a.v 10 (c 0 rfl)), trivial⟩ ?_
  intro f4 s4 W4 hB4 g4 hg4 z4
  have fB4 := hB4.f fB3
  have k4_0 := kt hg4 0 (kt hg3 0 k_1_0)
  have k4_1 := kt hg4 1 (kt hg3 1 k_1_1)
  have k4_5 := kt hg4 5 (hB4.is 1)
  refine rw_ 6 [(11, 0), (12, 1), (13, 2), (14, 3), (15, 4), (16, 5)] [[], [], [], [1, 2], [3], [0, 4]] (rel [is (.func (.func 98) #[] #[]), is (.slice (some ⟨bb, oo, none⟩) nn cc), iI ((i : Int)), is (.pointer (some ⟨bb, oo + i * 8, none⟩)), is (.agg #[.int .i64 ((ps i).kind), .int .i64 ((ps i).weight), .int .i64 ((ps i).t1), .int .i64 ((ps i).t2), .int .i64 ((ps i).m1), .int .i64 ((ps i).m2), .int .i64 ((ps i).price), .int .i64 ((ps i).strong)]), iB false])
   ⟨fun f s W b c d h j a => opm (a.v 1 k4_1),
  fun f s W b c d h j a => opm (a.v 0 k4_0),
  fun f s W b c d h j a => opm (a.v 5 k4_5),
  fun f s W b c d h j a => opv rfl rfl (by simp [go_sem, a.e 12 (c 1 rfl), a.e 13 (c 2 rfl), li, ln, lz]) rfl,
  fun f s W b c d h j a => by have k := bwt fB4 b; obtain ⟨e0_, e1_, e2_, e3_, e4_, e5_, e6_, e7_⟩ := (hR.below k).2 i ln; exact opv rfl rfl (by simp [go_sem, a.e 14 (c 3 rfl), e0_, e1_, e2_, e3_, e4_, e5_, e6_, e7_]) rfl,
  fun f s W b c d h j a => opc rfl rfl (by simp [go_sem, a.e 15 (c 4 rfl), a.e 11 (c 0 rfl)]) (checkP (ps i) (hin i ln) W), trivial⟩ ?_
  intro f5 s5 W5 hB5 g5 hg5 z5
  have k5_8 := kt hg5 8 (kt hg4 8 k3_8)
  have k5_16 := kt hg5 16 (hB5.is 5)
  refine wp_cond_false ((fr_eval rfl).trans k5_16) ?_
  refine wp_skip ?_
  refine ibn ?_
  refine hK7 _ _ ?_
  refine ry 2 [(18, 0), (8, 1)] [[], [0]] (rel [iI ((i : Int) + 1), iI ((i : Int) + 1)])
   ⟨fun f s W b c d h j a => opv rfl rfl (by simp [go_sem, a.e 8 ((h 1 8 rfl rfl).trans k5_8), IntWalk.i64_in ((i : Int) + 1) (by omega)]) rfl,
  fun f s W b c d h j a => opm (a.v 18 (c 0 rfl)), trivial⟩ ?_
  intro f6 s6 W6 hB6 g6 hg6 z6
  have fB6 := hB6.f (hB5.f fB4)
  refine wpe ?_
  have k6_0 := kt hg6 0 (kt hg5 0 k4_0)
  have k6_1 := kt hg6 1 (kt hg5 1 k4_1)
  have k6_4 := kt hg6 4 (kt hg5 4 (kt hg4 4 (kt hg3 4 k_1_4)))
  have k6_7 := kt hg6 7 (kt hg5 7 (kt hg4 7 (kt hg3 7 k_1_7)))
  have k6_8 := kt hg6 8 (hB6.is 1)
  refine then_normal ?_
  exact ⟨_, by omega, g6, rfl, i + 1, rfl, k6_0, k6_1, k6_4, k6_7, k6_8.trans (by go_num), fB6, (by omega), (by omega)⟩
 ·
  have hc6' := hc6; try simp only [ba] at hc6'
  refine wp_exit ?_
  refine then_exit ?_
  refine then_exit ?_
  refine inBlock_at ?_
  refine hK2 _ _ ?_
  refine rw_ 1 [(4, 0)] [[]] (rel [iI (-1)])
   ⟨fun f s W b c d h j a => opz, trivial⟩ ?_
  intro f7 s7 W7 hB7 g7 hg7 z7
  have fB7 := hB7.f fB3
  have k7_4 := kt hg7 4 (hB7.is 0)
  refine wp_ret ?_
  refine leave_one (N := 19) (.inr rfl) Try.results118 rfl k7_4 ?_
  exact ⟨rfl, fB7⟩
theorem contains_checkP (ps : Nat → Pa) (bb oo nn cc : Nat) (w : World) (h8 : nn ≤ 8) (hR : PaR w bb oo nn ps) (hin : ∀ i, i < nn → PaIn (ps i)) :
  Calls Try.prog 97 #[.slice (some ⟨bb, oo, none⟩) nn cc, .func (.func 98) #[] #[]] w (fun e w' => e = .returned (.bool false) ∧ Below w.heap.size w w') := by
 refine calls_fr Try.func97 Try.ntmps97 rfl rfl fun g hg => ?_
 have k0 : g 0 = .slice (some ⟨bb, oo, none⟩) nn cc := hg 0
 have k1 : g 1 = .func (.func 98) #[] #[] := hg 1
 clear hg
 have fB0 : Below w.heap.size w w := Below.refl _ _
 refine rw_ 1 [(4, 0)] [[]] (rel [iB false])
  ⟨fun f s W b c d h j a => opz, trivial⟩ ?_
 intro f1 s1 W1 hB1 g1 hg1 z1
 have fB1 := hB1.f fB0
 have k1_0 := kt hg1 0 k0
 have k1_1 := kt hg1 1 k1
 refine rw_ 5 [(5, 0), (6, 1), (7, 2), (8, 3), (4, 4)] [[], [], [0, 1], [2], [3]] (rel [is (.slice (some ⟨bb, oo, none⟩) nn cc), is (.func (.func 98) #[] #[]), iI (-1), iB false, iB false])
  ⟨fun f s W b c d h j a => opm (a.v 0 k1_0),
  fun f s W b c d h j a => opm (a.v 1 k1_1),
  fun f s W b c d h j a => by have k := bwt fB1 b; exact opc rfl rfl (by simp [go_sem, a.e 5 (c 0 rfl), a.e 6 (c 1 rfl)]) (index_checkP ps bb oo nn cc W h8 (hR.below k) hin),
  fun f s W b c d h j a => opv rfl rfl (by simp [go_sem, a.e 7 (c 2 rfl)]) rfl,
  fun f s W b c d h j a => opm (a.v 8 (c 3 rfl)), trivial⟩ ?_
 intro f2 s2 W2 hB2 g2 hg2 z2
 have fB2 := hB2.f fB1
 have k2_4 := kt hg2 4 (hB2.is 4)
 refine wp_ret ?_
 refine leave_one (N := 9) (.inr rfl) Try.results97 rfl k2_4 ?_
 exact ⟨rfl, fB2⟩
theorem index_checkF (qs : Nat → Fu) (bb oo nn cc : Nat) (w : World) (h8 : nn ≤ 8) (hR : FuR w bb oo nn qs) (hin : ∀ i, i < nn → FuIn (qs i)) :
  Calls Try.prog 120 #[.slice (some ⟨bb, oo, none⟩) nn cc, .func (.func 101) #[] #[]] w (fun e w' => e = .returned (.int .i64 (-1)) ∧ Below w.heap.size w w') := by
 refine calls_fr Try.func120 Try.ntmps120 rfl rfl fun g hg => ?_
 have k0 : g 0 = .slice (some ⟨bb, oo, none⟩) nn cc := hg 0
 have k1 : g 1 = .func (.func 101) #[] #[] := hg 1
 clear hg
 have fB0 : Below w.heap.size w w := Below.refl _ _
 refine rw_ 1 [(4, 0)] [[]] (rel [iI 0])
  ⟨fun f s W b c d h j a => opz, trivial⟩ ?_
 intro f1 s1 W1 hB1 g1 hg1 z1
 have k1_0 := kt hg1 0 k0
 refine wp_seq_k fun K2 hK2 => ?_
 refine rw_ 3 [(6, 0), (7, 1), (8, 2)] [[], [0], []] (rel [is (.slice (some ⟨bb, oo, none⟩) nn cc), iI ((nn : Int)), iI 0])
  ⟨fun f s W b c d h j a => opm (a.v 0 k1_0),
  fun f s W b c d h j a => opv rfl rfl (by simp [go_sem, a.e 6 (c 0 rfl)]) rfl,
  fun f s W b c d h j a => opz, trivial⟩ ?_
 intro f2 s2 W2 hB2 g2 hg2 z2
 have fB2 := hB2.f (hB1.f fB0)
 have k2_0 := kt hg2 0 k1_0
 have k2_1 := kt hg2 1 (kt hg1 1 k1)
 have k2_4 := kt hg2 4 (kt hg1 4 (hB1.is 0))
 have k2_7 := kt hg2 7 (hB2.is 1)
 have k2_8 := kt hg2 8 (hB2.is 2)
 refine wp_block ?_
 refine wp_loop_n (fun m_ a_ W_ => ∃ g_ : Nat → Value, a_ = fr 19 g_ ∧ (∃ i : Nat, m_ = nn - i ∧ g_ 0 = .slice (some ⟨bb, oo, none⟩) nn cc ∧ g_ 1 = .func (.func 101) #[] #[] ∧ g_ 4 = .int .i64 0 ∧ g_ 7 = .int .i64 ((nn : Int)) ∧ g_ 8 = .int .i64 ((i : Int)) ∧ Below w.heap.size w W_ ∧ W2.heap.size ≤ W_.heap.size ∧ (i ≤ nn))) ⟨_, g2, rfl, 0, rfl, k2_0, k2_1, k2_4, k2_7, k2_8.trans (by rfl), fB2, Nat.le_refl _, (by omega)⟩ ?_
 rintro _ _ W_2 ⟨g_2, rfl, i, rfl, k_2_0, k_2_1, k_2_4, k_2_7, k_2_8, fB_2, z_2, lp0⟩
 refine rw_ 1 [(9, 0)] [[]] (rel [iB (decide ((i : Int) < (nn : Int)))])
  ⟨fun f s W b c d h j a => opv rfl rfl (by simp [go_sem, a.e 8 k_2_8, a.e 7 k_2_7]) rfl, trivial⟩ ?_
 intro f3 s3 W3 hB3 g3 hg3 z3
 have fB3 := hB3.f fB_2
 have k3_8 := kt hg3 8 k_2_8
 have k3_9 := kt hg3 9 (hB3.is 0)
 refine wp_seq_k fun K5 hK5 => ?_
 refine wp_cond_split (t := decide ((i : Int) < (nn : Int))) ((fr_eval rfl).trans k3_9) (fun hc6 => ?_) (fun hc6 => ?_)
 ·
  have hc6' := hc6; try simp only [ba] at hc6'
  have ln : i < nn := by omega
  have lz : (i : Int) < (nn : Int) := by omega
  have li := Nat.not_le.2 ln
  refine wp_skip ?_
  refine hK5 _ _ ?_
  refine wp_seq_k fun K7 hK7 => ?_
  refine wp_block ?_
  refine rw_ 2 [(10, 0), (5, 1)] [[], [0]] (rel [iI ((i : Int)), iI ((i : Int))])
   ⟨fun f s W b c d h j a => opm (a.v 8 k3_8),
  fun f s W b c d h j a => opm (a.v 10 (c 0 rfl)), trivial⟩ ?_
  intro f4 s4 W4 hB4 g4 hg4 z4
  have fB4 := hB4.f fB3
  have k4_0 := kt hg4 0 (kt hg3 0 k_2_0)
  have k4_1 := kt hg4 1 (kt hg3 1 k_2_1)
  have k4_5 := kt hg4 5 (hB4.is 1)
  refine rw_ 6 [(11, 0), (12, 1), (13, 2), (14, 3), (15, 4), (16, 5)] [[], [], [], [1, 2], [3], [0, 4]] (rel [is (.func (.func 101) #[] #[]), is (.slice (some ⟨bb, oo, none⟩) nn cc), iI ((i : Int)), is (.pointer (some ⟨bb, oo + i * 4, none⟩)), is (.agg #[.int .i64 ((qs i).pitch), .int .i64 ((qs i).draw), .int .i64 ((qs i).h1), .int .i64 ((qs i).h2)]), iB false])
   ⟨fun f s W b c d h j a => opm (a.v 1 k4_1),
  fun f s W b c d h j a => opm (a.v 0 k4_0),
  fun f s W b c d h j a => opm (a.v 5 k4_5),
  fun f s W b c d h j a => opv rfl rfl (by simp [go_sem, a.e 12 (c 1 rfl), a.e 13 (c 2 rfl), li, ln, lz]) rfl,
  fun f s W b c d h j a => by have k := bwt fB4 b; obtain ⟨e0_, e1_, e2_, e3_⟩ := (hR.below k).2 i ln; exact opv rfl rfl (by simp [go_sem, a.e 14 (c 3 rfl), e0_, e1_, e2_, e3_]) rfl,
  fun f s W b c d h j a => opc rfl rfl (by simp [go_sem, a.e 15 (c 4 rfl), a.e 11 (c 0 rfl)]) (checkF (qs i) (hin i ln) W), trivial⟩ ?_
  intro f5 s5 W5 hB5 g5 hg5 z5
  have k5_8 := kt hg5 8 (kt hg4 8 k3_8)
  have k5_16 := kt hg5 16 (hB5.is 5)
  refine wp_cond_false ((fr_eval rfl).trans k5_16) ?_
  refine wp_skip ?_
  refine ibn ?_
  refine hK7 _ _ ?_
  refine ry 2 [(18, 0), (8, 1)] [[], [0]] (rel [iI ((i : Int) + 1), iI ((i : Int) + 1)])
   ⟨fun f s W b c d h j a => opv rfl rfl (by simp [go_sem, a.e 8 ((h 1 8 rfl rfl).trans k5_8), IntWalk.i64_in ((i : Int) + 1) (by omega)]) rfl,
  fun f s W b c d h j a => opm (a.v 18 (c 0 rfl)), trivial⟩ ?_
  intro f6 s6 W6 hB6 g6 hg6 z6
  have fB6 := hB6.f (hB5.f fB4)
  refine wpe ?_
  have k6_0 := kt hg6 0 (kt hg5 0 k4_0)
  have k6_1 := kt hg6 1 (kt hg5 1 k4_1)
  have k6_4 := kt hg6 4 (kt hg5 4 (kt hg4 4 (kt hg3 4 k_2_4)))
  have k6_7 := kt hg6 7 (kt hg5 7 (kt hg4 7 (kt hg3 7 k_2_7)))
  have k6_8 := kt hg6 8 (hB6.is 1)
  refine then_normal ?_
  exact ⟨_, by omega, g6, rfl, i + 1, rfl, k6_0, k6_1, k6_4, k6_7, k6_8.trans (by go_num), fB6, (by omega), (by omega)⟩
 ·
  have hc6' := hc6; try simp only [ba] at hc6'
  refine wp_exit ?_
  refine then_exit ?_
  refine then_exit ?_
  refine inBlock_at ?_
  refine hK2 _ _ ?_
  refine rw_ 1 [(4, 0)] [[]] (rel [iI (-1)])
   ⟨fun f s W b c d h j a => opz, trivial⟩ ?_
  intro f7 s7 W7 hB7 g7 hg7 z7
  have fB7 := hB7.f fB3
  have k7_4 := kt hg7 4 (hB7.is 0)
  refine wp_ret ?_
  refine leave_one (N := 19) (.inr rfl) Try.results120 rfl k7_4 ?_
  exact ⟨rfl, fB7⟩
theorem contains_checkF (qs : Nat → Fu) (bb oo nn cc : Nat) (w : World) (h8 : nn ≤ 8) (hR : FuR w bb oo nn qs) (hin : ∀ i, i < nn → FuIn (qs i)) :
  Calls Try.prog 100 #[.slice (some ⟨bb, oo, none⟩) nn cc, .func (.func 101) #[] #[]] w (fun e w' => e = .returned (.bool false) ∧ Below w.heap.size w w') := by
 refine calls_fr Try.func100 Try.ntmps100 rfl rfl fun g hg => ?_
 have k0 : g 0 = .slice (some ⟨bb, oo, none⟩) nn cc := hg 0
 have k1 : g 1 = .func (.func 101) #[] #[] := hg 1
 clear hg
 have fB0 : Below w.heap.size w w := Below.refl _ _
 refine rw_ 1 [(4, 0)] [[]] (rel [iB false])
  ⟨fun f s W b c d h j a => opz, trivial⟩ ?_
 intro f1 s1 W1 hB1 g1 hg1 z1
 have fB1 := hB1.f fB0
 have k1_0 := kt hg1 0 k0
 have k1_1 := kt hg1 1 k1
 refine rw_ 5 [(5, 0), (6, 1), (7, 2), (8, 3), (4, 4)] [[], [], [0, 1], [2], [3]] (rel [is (.slice (some ⟨bb, oo, none⟩) nn cc), is (.func (.func 101) #[] #[]), iI (-1), iB false, iB false])
  ⟨fun f s W b c d h j a => opm (a.v 0 k1_0),
  fun f s W b c d h j a => opm (a.v 1 k1_1),
  fun f s W b c d h j a => by have k := bwt fB1 b; exact opc rfl rfl (by simp [go_sem, a.e 5 (c 0 rfl), a.e 6 (c 1 rfl)]) (index_checkF qs bb oo nn cc W h8 (hR.below k) hin),
  fun f s W b c d h j a => opv rfl rfl (by simp [go_sem, a.e 7 (c 2 rfl)]) rfl,
  fun f s W b c d h j a => opm (a.v 8 (c 3 rfl)), trivial⟩ ?_
 intro f2 s2 W2 hB2 g2 hg2 z2
 have fB2 := hB2.f fB1
 have k2_4 := kt hg2 4 (hB2.is 4)
 refine wp_ret ?_
 refine leave_one (N := 9) (.inr rfl) Try.results100 rfl k2_4 ?_
 exact ⟨rfl, fB2⟩
theorem boCheck_ok (ps : Nat → Pa) (qs : Nat → Fu) (bp oP np cp bq oq nq cq : Nat) (w : World) (hP : PaR w bp oP np ps) (hQ : FuR w bq oq nq qs) (hpi : ∀ i, i < np → PaIn (ps i)) (hqi : ∀ i, i < nq → FuIn (qs i)) (np1 : 1 ≤ np) (np8 : np ≤ 8) (nq1 : 1 ≤ nq) (nq4 : nq ≤ 4) :
  Calls Try.prog 78 #[.agg #[.slice (some ⟨bp, oP, none⟩) np cp, .slice (some ⟨bq, oq, none⟩) nq cq]] w (fun e w' => e = .returned (.int .i64 0) ∧ Below w.heap.size w w') := by
 have d1 : decide ((8 : Int) < (np : Int)) = false := decide_eq_false (by omega)
 have d2 : decide ((4 : Int) < (nq : Int)) = false := decide_eq_false (by omega)
 have d3 : ((np : Int) == 0) = false := beq_eq_false_iff_ne.2 (by omega)
 have d4 : ((nq : Int) == 0) = false := beq_eq_false_iff_ne.2 (by omega)
 refine calls_fr Try.func78 Try.ntmps78 rfl rfl fun g hg => ?_
 have k0 : g 0 = .agg #[.slice (some ⟨bp, oP, none⟩) np cp, .slice (some ⟨bq, oq, none⟩) nq cq] := hg 0
 clear hg
 have fB0 : Below w.heap.size w w := Below.refl _ _
 refine rw_ 2 [(1, 0), (2, 1)] [[], []] (rel [bx 0 #[.slice (some ⟨bp, oP, none⟩) np cp, .slice (some ⟨bq, oq, none⟩) nq cq] 68, iI 0])
  ⟨fun f s W c d h j k a => opb rfl rfl (by simp [go_sem, a.e 0 k0]),
  fun f s W c d h j k a => opz, trivial⟩ ?_
 intro f1 s1 W1 hB1 g1 hg1 z1
 obtain ⟨r1_0, br1_0⟩ := hB1.is 0
 have lr1_0 := hB1.lr 0 br1_0
 have k1_1 := kt hg1 1 r1_0
 refine wp_seq_k fun K2 hK2 => ?_
 refine wp_block ?_
 refine wp_seq_k fun K3 hK3 => ?_
 refine rw_ 5 [(4, 0), (5, 1), (6, 2), (7, 3), (3, 4)] [[], [0], [1], [2], [3]] (rel [is (.pointer (some ⟨(s1 0), 0, none⟩)), is (.slice (some ⟨bp, oP, none⟩) np cp), iI ((np : Int)), iB (decide (8 < (np : Int))), iB (decide (8 < (np : Int)))])
  ⟨fun f s W c d h j k a => opv rfl rfl (by simp [go_sem, a.e 1 k1_1]) rfl,
  fun f s W c d h j k a => opv rfl rfl (by simp [go_sem, a.e 4 (d 0 rfl), cb br1_0 c 0]) rfl,
  fun f s W c d h j k a => opv rfl rfl (by simp [go_sem, a.e 5 (d 1 rfl)]) rfl,
  fun f s W c d h j k a => opv rfl rfl (by simp [go_sem, a.e 6 (d 2 rfl)]) rfl,
  fun f s W c d h j k a => opm (a.v 7 (d 3 rfl)), trivial⟩ ?_
 intro f2 s2 W2 hB2 g2 hg2 z2
 have b2_0 := hB2.b br1_0
 have k2_1 := kt hg2 1 k1_1
 have k2_3 := kt hg2 3 (hB2.is 4)
 have hc5 : (fr 28 g2).eval (.tmp 3) = .bool false := ((fr_eval rfl).trans k2_3).trans (by rw [d1])
 refine wp_cond_false (hc5) ?_
 refine ry 5 [(8, 0), (9, 1), (10, 2), (11, 3), (3, 4)] [[], [0], [1], [2], [3]] (rel [is (.pointer (some ⟨(s1 0), 1, none⟩)), is (.slice (some ⟨bq, oq, none⟩) nq cq), iI ((nq : Int)), iB (decide (4 < (nq : Int))), iB (decide (4 < (nq : Int)))])
  ⟨fun f s W c d h j k a => opv rfl rfl (by simp [go_sem, a.e 1 k2_1]) rfl,
  fun f s W c d h j k a => opv rfl rfl (by simp [go_sem, a.e 8 (d 0 rfl), cb b2_0 c 1]) rfl,
  fun f s W c d h j k a => opv rfl rfl (by simp [go_sem, a.e 9 (d 1 rfl)]) rfl,
  fun f s W c d h j k a => opv rfl rfl (by simp [go_sem, a.e 10 (d 2 rfl)]) rfl,
  fun f s W c d h j k a => opm (a.v 11 (d 3 rfl)), trivial⟩ ?_
 intro f3 s3 W3 hB3 g3 hg3 z3
 have b3_0 := hB3.b b2_0
 refine hK3 _ _ ?_
 have k3_1 := kt hg3 1 k2_1
 have k3_3 := kt hg3 3 (hB3.is 4)
 have hc6 : (fr 28 g3).eval (.tmp 3) = .bool false := ((fr_eval rfl).trans k3_3).trans (by rw [d2])
 refine wp_cond_false (hc6) ?_
 refine wp_seq_k fun K7 hK7 => ?_
 refine rw_ 5 [(13, 0), (14, 1), (15, 2), (16, 3), (12, 4)] [[], [0], [1], [2], [3]] (rel [is (.pointer (some ⟨(s1 0), 0, none⟩)), is (.slice (some ⟨bp, oP, none⟩) np cp), iI ((np : Int)), iB ((np : Int) == 0), iB ((np : Int) == 0)])
  ⟨fun f s W c d h j k a => opv rfl rfl (by simp [go_sem, a.e 1 k3_1]) rfl,
  fun f s W c d h j k a => opv rfl rfl (by simp [go_sem, a.e 13 (d 0 rfl), cb b3_0 c 0]) rfl,
  fun f s W c d h j k a => opv rfl rfl (by simp [go_sem, a.e 14 (d 1 rfl)]) rfl,
  fun f s W c d h j k a => opv rfl rfl (by simp [go_sem, a.e 15 (d 2 rfl)]) rfl,
  fun f s W c d h j k a => opm (a.v 16 (d 3 rfl)), trivial⟩ ?_
 intro f4 s4 W4 hB4 g4 hg4 z4
 have b4_0 := hB4.b b3_0
 have k4_1 := kt hg4 1 k3_1
 have k4_12 := kt hg4 12 (hB4.is 4)
 have hc9 : (fr 28 g4).eval (.tmp 12) = .bool false := ((fr_eval rfl).trans k4_12).trans (by rw [d3])
 refine wp_cond_false (hc9) ?_
 refine ry 5 [(17, 0), (18, 1), (19, 2), (20, 3), (12, 4)] [[], [0], [1], [2], [3]] (rel [is (.pointer (some ⟨(s1 0), 1, none⟩)), is (.slice (some ⟨bq, oq, none⟩) nq cq), iI ((nq : Int)), iB ((nq : Int) == 0), iB ((nq : Int) == 0)])
  ⟨fun f s W c d h j k a => opv rfl rfl (by simp [go_sem, a.e 1 k4_1]) rfl,
  fun f s W c d h j k a => opv rfl rfl (by simp [go_sem, a.e 17 (d 0 rfl), cb b4_0 c 1]) rfl,
  fun f s W c d h j k a => opv rfl rfl (by simp [go_sem, a.e 18 (d 1 rfl)]) rfl,
  fun f s W c d h j k a => opv rfl rfl (by simp [go_sem, a.e 19 (d 2 rfl)]) rfl,
  fun f s W c d h j k a => opm (a.v 20 (d 3 rfl)), trivial⟩ ?_
 intro f5 s5 W5 hB5 g5 hg5 z5
 have fB5 := hB5.f (hB4.f (hB3.f (hB2.f (hB1.f fB0))))
 have b5_0 := hB5.b b4_0
 refine hK7 _ _ ?_
 have k5_1 := kt hg5 1 k4_1
 have k5_12 := kt hg5 12 (hB5.is 4)
 have hc10 : (fr 28 g5).eval (.tmp 12) = .bool false := ((fr_eval rfl).trans k5_12).trans (by rw [d4])
 refine wp_cond_false (hc10) ?_
 refine wp_seq_k fun K11 hK11 => ?_
 refine rw_ 4 [(22, 0), (23, 1), (24, 2), (21, 3)] [[], [0], [1], [2]] (rel [is (.pointer (some ⟨(s1 0), 0, none⟩)), is (.slice (some ⟨bp, oP, none⟩) np cp), iB false, iB false])
  ⟨fun f s W c d h j k a => opv rfl rfl (by simp [go_sem, a.e 1 k5_1]) rfl,
  fun f s W c d h j k a => opv rfl rfl (by simp [go_sem, a.e 22 (d 0 rfl), cb b5_0 c 0]) rfl,
  fun f s W c d h j k a => by have l := bwt fB5 c; exact opc rfl rfl (by simp [go_sem, a.e 23 (d 1 rfl)]) (contains_checkP ps bp oP np cp W np8 (hP.below l) hpi),
  fun f s W c d h j k a => opm (a.v 24 (d 2 rfl)), trivial⟩ ?_
 intro f6 s6 W6 hB6 g6 hg6 z6
 have fB6 := hB6.f fB5
 have b6_0 := hB6.b b5_0
 have k6_1 := kt hg6 1 k5_1
 have k6_21 := kt hg6 21 (hB6.is 3)
 refine wp_cond_false ((fr_eval rfl).trans k6_21) ?_
 refine ry 4 [(25, 0), (26, 1), (27, 2), (21, 3)] [[], [0], [1], [2]] (rel [is (.pointer (some ⟨(s1 0), 1, none⟩)), is (.slice (some ⟨bq, oq, none⟩) nq cq), iB false, iB false])
  ⟨fun f s W c d h j k a => opv rfl rfl (by simp [go_sem, a.e 1 k6_1]) rfl,
  fun f s W c d h j k a => opv rfl rfl (by simp [go_sem, a.e 25 (d 0 rfl), cb b6_0 c 1]) rfl,
  fun f s W c d h j k a => by have l := bwt fB6 c; exact opc rfl rfl (by simp [go_sem, a.e 26 (d 1 rfl)]) (contains_checkF qs bq oq nq cq W (by omega) (hQ.below l) hqi),
  fun f s W c d h j k a => opm (a.v 27 (d 2 rfl)), trivial⟩ ?_
 intro f7 s7 W7 hB7 g7 hg7 z7
 refine hK11 _ _ ?_
 have k7_21 := kt hg7 21 (hB7.is 3)
 refine wp_cond_false ((fr_eval rfl).trans k7_21) ?_
 refine wp_skip ?_
 refine ibn ?_
 refine hK2 _ _ ?_
 refine rw_ 1 [(2, 0)] [[]] (rel [iI 0])
  ⟨fun f s W c d h j k a => opz, trivial⟩ ?_
 intro f8 s8 W8 hB8 g8 hg8 z8
 have fB8 := hB8.f (hB7.f fB6)
 have k8_2 := kt hg8 2 (hB8.is 0)
 refine wp_ret ?_
 refine leave_one (N := 28) (.inr rfl) Try.results78 rfl k8_2 ?_
 exact ⟨rfl, fB8⟩
end Go.Proofs.Ytolnpbpeifpbjaa
