/- Part of the proof: what the claim leans on. -/
import Derived.Test.YtiocklgakklkpaaNAJ
import Derived.Test.YtiocklgakklkpaaNAC
import Derived.Test.YtiocklgakklkpaaNAD
import Derived.Test.YtiocklgakklkpaaNAH
import Derived.Test.YtiocklgakklkpaaNAI
set_option linter.unusedSimpArgs false
set_option linter.unusedVariables false
namespace Go.Proofs.Ytiocklgakklkpaa
open Go.RowKit
set_option maxHeartbeats 400000 in
theorem bo_within1_any (n lo hi : Int) (a b : Addr) (w : World) (ha : w.cell? a = some (.int .i64 lo)) (hb : w.cell? b = some (.int .i64 hi)) :
    Calls Try.prog 77 #[.int .i64 n, .pointer (some a), .pointer (some b)] w fun e w' => e = .returned (.bool (decide (n < lo) || decide (hi < n))) ∧ Below w.heap.size w w' := by
  by_cases h : n < lo
  · go_enter Try.func77, Try.ntmps77
    go_wp2
    go_ret
    exact ⟨by simp [h], Below.refl _ _⟩
  · go_enter Try.func77, Try.ntmps77
    go_wp2
    go_ret
    exact ⟨by simp; omega, Below.refl _ _⟩
theorem bo_pred_within (lo hi : Int) (a b : Addr) (xs : List Int) (w : World) (ha : w.cell? a = some (.int .i64 lo)) (hb : w.cell? b = some (.int .i64 hi)) (la : a.block < w.heap.size) (lb : b.block < w.heap.size) :
    Pred 77 #[.pointer (some a), .pointer (some b)] (Value.int .i64) (fun n => decide (n < lo) || decide (hi < n)) xs w :=
  fun x _ w1 h1 => bo_within1_any x lo hi a b w1 ((h1.cell la).trans ha) ((h1.cell lb).trans hb)
set_option maxHeartbeats 400000 in
theorem bo_within_any (lo hi : Int) (a : Option Addr) (n c : Nat) (xs : List Int) (w : World) (h : Ii w a n c xs) :
    Calls Try.prog 61 #[.int .i64 lo, .int .i64 hi, .slice a n c] w fun e w' => e = .returned (.bool (within lo hi xs)) ∧ Below w.heap.size w w' := by
  have H := Lib.hid h
  clear h
  have hb2 : Below w.heap.size w ((w.alloc (.cells #[.int .i64 lo] 3)).alloc (.cells #[.int .i64 hi] 3)) := ((Below.refl _ _).alloc (Nat.le_refl _) _).alloc (by simp) _
  have C := Lib.hid (containsFunc_ints 77 Try.call77 _ (fun n => decide (n < lo) || decide (hi < n)) a n c xs _ (H.out.below hb2 (Nat.le_refl _))
    (bo_pred_within lo hi ⟨w.heap.size, 0, none⟩ ⟨w.heap.size + 1, 0, none⟩ xs _ (by simp) (by simp) (by simp; omega) (by simp)))
  have Hb := Lib.hid hb2
  clear hb2
  go_enter Try.func61, Try.ntmps61
  go_wp2_with ((with_reducible refine (C.out).mono ?_); rintro e w2 ⟨rfl, hb2⟩)
  go_ret
  exact ⟨rfl, Hb.out.trans (hb2.mono (by simp; omega))⟩
set_option maxHeartbeats 400000 in
theorem bo_isSpan_any (lo hi : Int) (least most : Int) (w : World) :
    Calls Try.prog 92 #[.agg #[.int .i64 lo, .int .i64 hi], .int .i64 least, .int .i64 most] w fun e w' => e = .returned (.bool (isSpan (lo, hi) least most)) ∧ Below w.heap.size w w' := by
  by_cases hw : within least most [lo, hi] = true
  · go_enter Try.func92, Try.ntmps92
    go_wp2_with (refine (bo_within_any least most _ _ _ [lo, hi] _ (ii_two _ _ _ _ _ (by simp))).mono ?_; rintro e w2 ⟨rfl, hb2⟩; rw [hw]; obtain ⟨hc2, hf2⟩ := bcell hb2)
    all_goals go_ret
    exact ⟨by simp [isSpan, hw], (((Below.refl _ _).alloc (Nat.le_refl _) _).alloc (by simp) _).trans (hb2.mono (by simp; omega))⟩
  · have hw' : within least most [lo, hi] = false := by simpa using hw
    go_enter Try.func92, Try.ntmps92
    go_wp2_with (refine (bo_within_any least most _ _ _ [lo, hi] _ (ii_two _ _ _ _ _ (by simp))).mono ?_; rintro e w2 ⟨rfl, hb2⟩; rw [hw'])
    all_goals go_ret
    exact ⟨by simp [isSpan, hw'], (((Below.refl _ _).alloc (Nat.le_refl _) _).alloc (by simp) _).trans (hb2.mono (by simp; omega))⟩
set_option maxRecDepth 100000 in
set_option maxHeartbeats 4000000 in
theorem isPaper_1 (wt x1 x2 y1 y2 pr st : Int) (w : World) (hw : within 1 1000 [wt] = true) (hx : isSpan (x1, x2) 1 1000 = true) (hy : isSpan (y1, y2) 0 200 = true) (hp : within 0 1000000 [pr] = true) (hst : within 0 10000 [st] = true) :
  Calls Try.prog 73 #[.agg #[.int .i64 1, .int .i64 wt, .int .i64 x1, .int .i64 x2, .int .i64 y1, .int .i64 y2, .int .i64 pr, .int .i64 st]] w (fun e w' => e = .returned (.bool true) ∧ Below w.heap.size w w') := by
 refine calls_fr Try.func73 Try.ntmps73 rfl rfl fun g hg => ?_
 have k0 : g 0 = .agg #[.int .i64 1, .int .i64 wt, .int .i64 x1, .int .i64 x2, .int .i64 y1, .int .i64 y2, .int .i64 pr, .int .i64 st] := hg 0
 clear hg
 have fB0 : Below w.heap.size w w := Below.refl _ _
 refine wp_seq_k fun K1 hK1 => ?_
 refine region_dk 2 [(1, 0), (2, 1)] [[], []] (rel [bx 0 #[.int .i64 1, .int .i64 wt, .int .i64 x1, .int .i64 x2, .int .i64 y1, .int .i64 y2, .int .i64 pr, .int .i64 st] 68,
   is (.bool false)])
  ⟨bx_k, is_k, trivial⟩
  ⟨fun f s W i j k l m a => opb rfl rfl (by simp [go_sem, a.e 0 k0]),
  fun f s W i j k l m a => opv rfl rfl (by simp [go_sem]) rfl, trivial⟩ ?_
 intro f1 s1 W1 hB1 g1 hg1
 have fB1 := hB1.f fB0
 have z1 := hB1.below.size
 obtain ⟨r1_0, br1_0⟩ := hB1.is 0
 have lr1_0 := hB1.lr 0 br1_0
 refine hK1 _ _ ?_
 have k1_1 := kt hg1 1 r1_0
 have k1_2 := kt hg1 2 (hB1.is 1)
 refine wp_seq_k fun K2 hK2 => ?_
 refine region_dk 37 [(3, 0), (4, 1), (5, 2), (6, 3), (7, 4), (8, 5), (9, 6), (10, 7), (11, 8), (12, 9), (13, 10), (14, 11), (15, 12), (16, 13), (17, 14), (18, 15), (19, 16), (20, 17), (21, 18), (22, 19), (23, 20), (24, 21), (25, 22), (26, 23), (27, 24), (28, 25), (29, 26), (30, 27), (31, 28), (32, 29), (33, 30), (34, 31), (35, 32), (36, 33), (37, 34), (38, 35), (2, 36)] [[], [0], [0, 1], [0, 1, 2], [0, 1, 2, 3], [0, 1, 2, 3, 4], [0, 1, 2, 3, 4, 5], [0, 1, 2, 3, 4, 5, 6], [0, 1, 2, 3, 4, 5, 6, 7], [0, 1, 2, 3, 4, 5, 6, 7, 8], [0, 1, 2, 3, 4, 5, 6, 7, 8, 9], [0, 1, 2, 3, 4, 5, 6, 7, 8, 9, 10], [0, 1, 2, 3, 4, 5, 6, 7, 8, 9, 10, 11], [0, 1, 2, 3, 4, 5, 6, 7, 8, 9, 10, 11, 12], [0, 1, 2, 3, 4, 5, 6, 7, 8, 9, 10, 11, 12, 13], [0, 1, 2, 3, 4, 5, 6, 7, 8, 9, 10, 11, 12, 13, 14], [0, 1, 2, 3, 4, 5, 6, 7, 8, 9, 10, 11, 12, 13, 14, 15], [0, 1, 2, 3, 4, 5, 6, 7, 8, 9, 10, 11, 12, 13, 14, 15, 16], [0, 1, 2, 3, 4, 5, 6, 7, 8, 9, 10, 11, 12, 13, 14, 15, 16, 17], [0, 1, 2, 3, 4, 5, 6, 7, 8, 9, 10, 11, 12, 13, 14, 15, 16, 17, 18], [0, 1, 2, 3, 4, 5, 6, 7, 8, 9, 10, 11, 12, 13, 14, 15, 16, 17, 18, 19], [0, 1, 2, 3, 4, 5, 6, 7, 8, 9, 10, 11, 12, 13, 14, 15, 16, 17, 18, 19, 20], [0, 1, 2, 3, 4, 5, 6, 7, 8, 9, 10, 11, 12, 13, 14, 15, 16, 17, 18, 19, 20, 21], [0, 1, 2, 3, 4, 5, 6, 7, 8, 9, 10, 11, 12, 13, 14, 15, 16, 17, 18, 19, 20, 21, 22], [0, 1, 2, 3, 4, 5, 6, 7, 8, 9, 10, 11, 12, 13, 14, 15, 16, 17, 18, 19, 20, 21, 22, 23], [0, 1, 2, 3, 4, 5, 6, 7, 8, 9, 10, 11, 12, 13, 14, 15, 16, 17, 18, 19, 20, 21, 22, 23, 24], [0, 1, 2, 3, 4, 5, 6, 7, 8, 9, 10, 11, 12, 13, 14, 15, 16, 17, 18, 19, 20, 21, 22, 23, 24, 25], [0, 1, 2, 3, 4, 5, 6, 7, 8, 9, 10, 11, 12, 13, 14, 15, 16, 17, 18, 19, 20, 21, 22, 23, 24, 25, 26], [0, 1, 2, 3, 4, 5, 6, 7, 8, 9, 10, 11, 12, 13, 14, 15, 16, 17, 18, 19, 20, 21, 22, 23, 24, 25, 26, 27], [0, 1, 2, 3, 4, 5, 6, 7, 8, 9, 10, 11, 12, 13, 14, 15, 16, 17, 18, 19, 20, 21, 22, 23, 24, 25, 26, 27, 28], [0, 1, 2, 3, 4, 5, 6, 7, 8, 9, 10, 11, 12, 13, 14, 15, 16, 17, 18, 19, 20, 21, 22, 23, 24, 25, 26, 27, 28, 29], [0, 1, 2, 3, 4, 5, 6, 7, 8, 9, 10, 11, 12, 13, 14, 15, 16, 17, 18, 19, 20, 21, 22, 23, 24, 25, 26, 27, 28, 29, 30], [0, 1, 2, 3, 4, 5, 6, 7, 8, 9, 10, 11, 12, 13, 14, 15, 16, 17, 18, 19, 20, 21, 22, 23, 24, 25, 26, 27, 28, 29, 30, 31], [0, 1, 2, 3, 4, 5, 6, 7, 8, 9, 10, 11, 12, 13, 14, 15, 16, 17, 18, 19, 20, 21, 22, 23, 24, 25, 26, 27, 28, 29, 30, 31, 32], [0, 1, 2, 3, 4, 5, 6, 7, 8, 9, 10, 11, 12, 13, 14, 15, 16, 17, 18, 19, 20, 21, 22, 23, 24, 25, 26, 27, 28, 29, 30, 31, 32, 33], [0, 1, 2, 3, 4, 5, 6, 7, 8, 9, 10, 11, 12, 13, 14, 15, 16, 17, 18, 19, 20, 21, 22, 23, 24, 25, 26, 27, 28, 29, 30, 31, 32, 33, 34], [0, 1, 2, 3, 4, 5, 6, 7, 8, 9, 10, 11, 12, 13, 14, 15, 16, 17, 18, 19, 20, 21, 22, 23, 24, 25, 26, 27, 28, 29, 30, 31, 32, 33, 34, 35]] (rel [is (.pointer (some ⟨(s1 0), 0, none⟩)),
   is (.int .i64 1),
   is (.bool true),
   is (.bool true),
   gd (true) false (fun _ _ _ => True),
   gd (true) false (fun _ _ _ => True),
   gd (true) false (fun _ _ _ => True),
   is (.bool true),
   is (.bool true),
   is (.pointer (some ⟨(s1 0), 1, none⟩)),
   is (.int .i64 wt),
   row 11 1 #[.int .i64 wt] 3,
   is (.bool true),
   is (.bool true),
   is (.bool true),
   is (.pointer (some ⟨(s1 0), 2, none⟩)),
   is (.agg #[.int .i64 x1, .int .i64 x2]),
   is (.bool true),
   is (.bool true),
   is (.bool true),
   is (.pointer (some ⟨(s1 0), 4, none⟩)),
   is (.agg #[.int .i64 y1, .int .i64 y2]),
   is (.bool true),
   is (.bool true),
   is (.bool true),
   is (.pointer (some ⟨(s1 0), 6, none⟩)),
   is (.int .i64 pr),
   row 27 1 #[.int .i64 pr] 3,
   is (.bool true),
   is (.bool true),
   is (.bool true),
   is (.pointer (some ⟨(s1 0), 7, none⟩)),
   is (.int .i64 st),
   row 33 1 #[.int .i64 st] 3,
   is (.bool true),
   is (.bool true),
   is (.bool true)])
  ⟨is_k, is_k, is_k, is_k, gdt_k, gdt_k, gdt_k, is_k, is_k, is_k, is_k, row_k, is_k, is_k, is_k, is_k, is_k, is_k, is_k, is_k, is_k, is_k, is_k, is_k, is_k, is_k, is_k, row_k, is_k, is_k, is_k, is_k, is_k, row_k, is_k, is_k, is_k, trivial⟩
  ⟨fun f s W i j k l m a => opv rfl rfl (by simp [go_sem, a.e 1 k1_1]) rfl,
  fun f s W i j k l m a => opv rfl rfl (by simp [go_sem, a.e 3 (j 0 rfl), cb br1_0 i 0]) rfl,
  fun f s W i j k l m a => opv rfl rfl (by simp [go_sem, a.e 4 (j 1 rfl)]) rfl,
  fun f s W i j k l m a => opv rfl rfl (by simp [go_sem, a.e 5 (j 2 rfl)]) rfl,
  fun f s W i j k l m a => gno (a.says (d := 6) rfl rfl (j 3 rfl)),
  fun f s W i j k l m a => gno (a.says (d := 6) rfl rfl (j 3 rfl)),
  fun f s W i j k l m a => gno (a.says (d := 6) rfl rfl (j 3 rfl)),
  fun f s W i j k l m a => opk (c := true) rfl rfl (fun h => absurd h (by decide)) (fun _ => by simp [go_sem, a.e 6 (j 3 rfl)]),
  fun f s W i j k l m a => opv rfl rfl (by simp [go_sem, a.e 10 (j 7 rfl)]) rfl,
  fun f s W i j k l m a => osure rfl rfl (a.says (d := 11) rfl rfl (j 8 rfl)) (gv (by simp [go_sem, a.e 1 k1_1]) rfl),
  fun f s W i j k l m a => osure rfl rfl (a.says (d := 11) rfl rfl (j 8 rfl)) (gv (by simp [go_sem, a.e 12 (j 9 rfl), cb br1_0 i 1]) rfl),
  fun f s W i j k l m a => osure rfl rfl (a.says (d := 11) rfl rfl (j 8 rfl)) (gr (by simp [go_sem, a.e 13 (j 10 rfl)])),
  fun f s W i j k l m a => osure rfl rfl (a.says (d := 11) rfl rfl (j 8 rfl)) (wp_called (args := #[.int .i64 1, .int .i64 1000, .slice (some ⟨(s 11), 0, none⟩) (1) (1)]) (by simp [go_sem, a.e 14 (j 11 rfl).1]) (bo_within_any (1) (1000) _ 1 1 [wt] W (ii_block (xs := [wt]) (j 11 rfl).2 rfl rfl)) ((fun e W' h => by have h1 := h.1; rw [hw] at h1; exact ⟨_, h1, h.2, rfl⟩))),
  fun f s W i j k l m a => opk (c := true) rfl rfl (fun h => absurd h (by decide)) (fun _ => by simp [go_sem, a.e 11 (j 8 rfl), a.e 15 (j 12 rfl)]),
  fun f s W i j k l m a => opv rfl rfl (by simp [go_sem, a.e 16 (j 13 rfl)]) rfl,
  fun f s W i j k l m a => osure rfl rfl (a.says (d := 17) rfl rfl (j 14 rfl)) (gv (by simp [go_sem, a.e 1 k1_1]) rfl),
  fun f s W i j k l m a => osure rfl rfl (a.says (d := 17) rfl rfl (j 14 rfl)) (gv (by simp [go_sem, a.e 18 (j 15 rfl), cb br1_0 i 2, cb br1_0 i 3]) rfl),
  fun f s W i j k l m a => osure rfl rfl (a.says (d := 17) rfl rfl (j 14 rfl)) (wp_called (by simp [go_sem, a.e 19 (j 16 rfl)]) (bo_isSpan_any (x1) (x2) (1) (1000) W) ((fun e W' h => by have h1 := h.1; rw [hx] at h1; exact ⟨_, h1, h.2, rfl⟩))),
  fun f s W i j k l m a => opk (c := true) rfl rfl (fun h => absurd h (by decide)) (fun _ => by simp [go_sem, a.e 17 (j 14 rfl), a.e 20 (j 17 rfl)]),
  fun f s W i j k l m a => opv rfl rfl (by simp [go_sem, a.e 21 (j 18 rfl)]) rfl,
  fun f s W i j k l m a => osure rfl rfl (a.says (d := 22) rfl rfl (j 19 rfl)) (gv (by simp [go_sem, a.e 1 k1_1]) rfl),
  fun f s W i j k l m a => osure rfl rfl (a.says (d := 22) rfl rfl (j 19 rfl)) (gv (by simp [go_sem, a.e 23 (j 20 rfl), cb br1_0 i 4, cb br1_0 i 5]) rfl),
  fun f s W i j k l m a => osure rfl rfl (a.says (d := 22) rfl rfl (j 19 rfl)) (wp_called (by simp [go_sem, a.e 24 (j 21 rfl)]) (bo_isSpan_any (y1) (y2) (0) (200) W) ((fun e W' h => by have h1 := h.1; rw [hy] at h1; exact ⟨_, h1, h.2, rfl⟩))),
  fun f s W i j k l m a => opk (c := true) rfl rfl (fun h => absurd h (by decide)) (fun _ => by simp [go_sem, a.e 22 (j 19 rfl), a.e 25 (j 22 rfl)]),
  fun f s W i j k l m a => opv rfl rfl (by simp [go_sem, a.e 26 (j 23 rfl)]) rfl,
  fun f s W i j k l m a => osure rfl rfl (a.says (d := 27) rfl rfl (j 24 rfl)) (gv (by simp [go_sem, a.e 1 k1_1]) rfl),
  fun f s W i j k l m a => osure rfl rfl (a.says (d := 27) rfl rfl (j 24 rfl)) (gv (by simp [go_sem, a.e 28 (j 25 rfl), cb br1_0 i 6]) rfl),
  fun f s W i j k l m a => osure rfl rfl (a.says (d := 27) rfl rfl (j 24 rfl)) (gr (by simp [go_sem, a.e 29 (j 26 rfl)])),
  fun f s W i j k l m a => osure rfl rfl (a.says (d := 27) rfl rfl (j 24 rfl)) (wp_called (args := #[.int .i64 0, .int .i64 1000000, .slice (some ⟨(s 27), 0, none⟩) (1) (1)]) (by simp [go_sem, a.e 30 (j 27 rfl).1]) (bo_within_any (0) (1000000) _ 1 1 [pr] W (ii_block (xs := [pr]) (j 27 rfl).2 rfl rfl)) ((fun e W' h => by have h1 := h.1; rw [hp] at h1; exact ⟨_, h1, h.2, rfl⟩))),
  fun f s W i j k l m a => opk (c := true) rfl rfl (fun h => absurd h (by decide)) (fun _ => by simp [go_sem, a.e 27 (j 24 rfl), a.e 31 (j 28 rfl)]),
  fun f s W i j k l m a => opv rfl rfl (by simp [go_sem, a.e 32 (j 29 rfl)]) rfl,
  fun f s W i j k l m a => osure rfl rfl (a.says (d := 33) rfl rfl (j 30 rfl)) (gv (by simp [go_sem, a.e 1 k1_1]) rfl),
  fun f s W i j k l m a => osure rfl rfl (a.says (d := 33) rfl rfl (j 30 rfl)) (gv (by simp [go_sem, a.e 34 (j 31 rfl), cb br1_0 i 7]) rfl),
  fun f s W i j k l m a => osure rfl rfl (a.says (d := 33) rfl rfl (j 30 rfl)) (gr (by simp [go_sem, a.e 35 (j 32 rfl)])),
  fun f s W i j k l m a => osure rfl rfl (a.says (d := 33) rfl rfl (j 30 rfl)) (wp_called (args := #[.int .i64 0, .int .i64 10000, .slice (some ⟨(s 33), 0, none⟩) (1) (1)]) (by simp [go_sem, a.e 36 (j 33 rfl).1]) (bo_within_any (0) (10000) _ 1 1 [st] W (ii_block (xs := [st]) (j 33 rfl).2 rfl rfl)) ((fun e W' h => by have h1 := h.1; rw [hst] at h1; exact ⟨_, h1, h.2, rfl⟩))),
  fun f s W i j k l m a => opk (c := true) rfl rfl (fun h => absurd h (by decide)) (fun _ => by simp [go_sem, a.e 33 (j 30 rfl), a.e 37 (j 34 rfl)]),
  fun f s W i j k l m a => opv rfl rfl (by simp [go_sem, a.e 38 (j 35 rfl)]) rfl, trivial⟩ ?_
 intro f2 s2 W2 hB2 g2 hg2
 have fB2 := hB2.f fB1
 have z2 := hB2.below.size
 have b2_0 := hB2.b br1_0
 obtain ⟨r2_11, br2_11⟩ := hB2.is 11
 have lr2_11 := hB2.lr 11 br2_11
 obtain ⟨r2_27, br2_27⟩ := hB2.is 27
 have lr2_27 := hB2.lr 27 br2_27
 obtain ⟨r2_33, br2_33⟩ := hB2.is 33
 have lr2_33 := hB2.lr 33 br2_33
 have ne2_11_27 := hB2.nb 11 27
 have ne2_11_33 := hB2.nb 11 33
 have ne2_27_33 := hB2.nb 27 33
 refine hK2 _ _ ?_
 have k2_2 := kt hg2 2 (hB2.is 36)
 refine wp_ret ?_
 refine leave_one (N := 39) (v := .bool true) (.inr rfl) Try.results73 rfl k2_2 ?_
 exact ⟨rfl, fB2⟩
set_option maxRecDepth 100000 in
set_option maxHeartbeats 4000000 in
theorem isPaper_2 (wt x1 x2 y1 y2 pr st : Int) (w : World) (hw : within 1 1000 [wt] = true) (hx : isSpan (x1, x2) 1 1000 = true) (hy : isSpan (y1, y2) 0 200 = true) (hp : within 0 1000000 [pr] = true) (hst : within 0 10000 [st] = true) :
  Calls Try.prog 73 #[.agg #[.int .i64 2, .int .i64 wt, .int .i64 x1, .int .i64 x2, .int .i64 y1, .int .i64 y2, .int .i64 pr, .int .i64 st]] w (fun e w' => e = .returned (.bool true) ∧ Below w.heap.size w w') := by
 refine calls_fr Try.func73 Try.ntmps73 rfl rfl fun g hg => ?_
 have k0 : g 0 = .agg #[.int .i64 2, .int .i64 wt, .int .i64 x1, .int .i64 x2, .int .i64 y1, .int .i64 y2, .int .i64 pr, .int .i64 st] := hg 0
 clear hg
 have fB0 : Below w.heap.size w w := Below.refl _ _
 refine wp_seq_k fun K1 hK1 => ?_
 refine region_dk 2 [(1, 0), (2, 1)] [[], []] (rel [bx 0 #[.int .i64 2, .int .i64 wt, .int .i64 x1, .int .i64 x2, .int .i64 y1, .int .i64 y2, .int .i64 pr, .int .i64 st] 68,
   is (.bool false)])
  ⟨bx_k, is_k, trivial⟩
  ⟨fun f s W i j k l m a => opb rfl rfl (by simp [go_sem, a.e 0 k0]),
  fun f s W i j k l m a => opv rfl rfl (by simp [go_sem]) rfl, trivial⟩ ?_
 intro f1 s1 W1 hB1 g1 hg1
 have fB1 := hB1.f fB0
 have z1 := hB1.below.size
 obtain ⟨r1_0, br1_0⟩ := hB1.is 0
 have lr1_0 := hB1.lr 0 br1_0
 refine hK1 _ _ ?_
 have k1_1 := kt hg1 1 r1_0
 have k1_2 := kt hg1 2 (hB1.is 1)
 refine wp_seq_k fun K2 hK2 => ?_
 refine region_dk 37 [(3, 0), (4, 1), (5, 2), (6, 3), (7, 4), (8, 5), (9, 6), (10, 7), (11, 8), (12, 9), (13, 10), (14, 11), (15, 12), (16, 13), (17, 14), (18, 15), (19, 16), (20, 17), (21, 18), (22, 19), (23, 20), (24, 21), (25, 22), (26, 23), (27, 24), (28, 25), (29, 26), (30, 27), (31, 28), (32, 29), (33, 30), (34, 31), (35, 32), (36, 33), (37, 34), (38, 35), (2, 36)] [[], [0], [0, 1], [0, 1, 2], [0, 1, 2, 3], [0, 1, 2, 3, 4], [0, 1, 2, 3, 4, 5], [0, 1, 2, 3, 4, 5, 6], [0, 1, 2, 3, 4, 5, 6, 7], [0, 1, 2, 3, 4, 5, 6, 7, 8], [0, 1, 2, 3, 4, 5, 6, 7, 8, 9], [0, 1, 2, 3, 4, 5, 6, 7, 8, 9, 10], [0, 1, 2, 3, 4, 5, 6, 7, 8, 9, 10, 11], [0, 1, 2, 3, 4, 5, 6, 7, 8, 9, 10, 11, 12], [0, 1, 2, 3, 4, 5, 6, 7, 8, 9, 10, 11, 12, 13], [0, 1, 2, 3, 4, 5, 6, 7, 8, 9, 10, 11, 12, 13, 14], [0, 1, 2, 3, 4, 5, 6, 7, 8, 9, 10, 11, 12, 13, 14, 15], [0, 1, 2, 3, 4, 5, 6, 7, 8, 9, 10, 11, 12, 13, 14, 15, 16], [0, 1, 2, 3, 4, 5, 6, 7, 8, 9, 10, 11, 12, 13, 14, 15, 16, 17], [0, 1, 2, 3, 4, 5, 6, 7, 8, 9, 10, 11, 12, 13, 14, 15, 16, 17, 18], [0, 1, 2, 3, 4, 5, 6, 7, 8, 9, 10, 11, 12, 13, 14, 15, 16, 17, 18, 19], [0, 1, 2, 3, 4, 5, 6, 7, 8, 9, 10, 11, 12, 13, 14, 15, 16, 17, 18, 19, 20], [0, 1, 2, 3, 4, 5, 6, 7, 8, 9, 10, 11, 12, 13, 14, 15, 16, 17, 18, 19, 20, 21], [0, 1, 2, 3, 4, 5, 6, 7, 8, 9, 10, 11, 12, 13, 14, 15, 16, 17, 18, 19, 20, 21, 22], [0, 1, 2, 3, 4, 5, 6, 7, 8, 9, 10, 11, 12, 13, 14, 15, 16, 17, 18, 19, 20, 21, 22, 23], [0, 1, 2, 3, 4, 5, 6, 7, 8, 9, 10, 11, 12, 13, 14, 15, 16, 17, 18, 19, 20, 21, 22, 23, 24], [0, 1, 2, 3, 4, 5, 6, 7, 8, 9, 10, 11, 12, 13, 14, 15, 16, 17, 18, 19, 20, 21, 22, 23, 24, 25], [0, 1, 2, 3, 4, 5, 6, 7, 8, 9, 10, 11, 12, 13, 14, 15, 16, 17, 18, 19, 20, 21, 22, 23, 24, 25, 26], [0, 1, 2, 3, 4, 5, 6, 7, 8, 9, 10, 11, 12, 13, 14, 15, 16, 17, 18, 19, 20, 21, 22, 23, 24, 25, 26, 27], [0, 1, 2, 3, 4, 5, 6, 7, 8, 9, 10, 11, 12, 13, 14, 15, 16, 17, 18, 19, 20, 21, 22, 23, 24, 25, 26, 27, 28], [0, 1, 2, 3, 4, 5, 6, 7, 8, 9, 10, 11, 12, 13, 14, 15, 16, 17, 18, 19, 20, 21, 22, 23, 24, 25, 26, 27, 28, 29], [0, 1, 2, 3, 4, 5, 6, 7, 8, 9, 10, 11, 12, 13, 14, 15, 16, 17, 18, 19, 20, 21, 22, 23, 24, 25, 26, 27, 28, 29, 30], [0, 1, 2, 3, 4, 5, 6, 7, 8, 9, 10, 11, 12, 13, 14, 15, 16, 17, 18, 19, 20, 21, 22, 23, 24, 25, 26, 27, 28, 29, 30, 31], [0, 1, 2, 3, 4, 5, 6, 7, 8, 9, 10, 11, 12, 13, 14, 15, 16, 17, 18, 19, 20, 21, 22, 23, 24, 25, 26, 27, 28, 29, 30, 31, 32], [0, 1, 2, 3, 4, 5, 6, 7, 8, 9, 10, 11, 12, 13, 14, 15, 16, 17, 18, 19, 20, 21, 22, 23, 24, 25, 26, 27, 28, 29, 30, 31, 32, 33], [0, 1, 2, 3, 4, 5, 6, 7, 8, 9, 10, 11, 12, 13, 14, 15, 16, 17, 18, 19, 20, 21, 22, 23, 24, 25, 26, 27, 28, 29, 30, 31, 32, 33, 34], [0, 1, 2, 3, 4, 5, 6, 7, 8, 9, 10, 11, 12, 13, 14, 15, 16, 17, 18, 19, 20, 21, 22, 23, 24, 25, 26, 27, 28, 29, 30, 31, 32, 33, 34, 35]] (rel [is (.pointer (some ⟨(s1 0), 0, none⟩)),
   is (.int .i64 2),
   is (.bool false),
   is (.bool false),
   is (.pointer (some ⟨(s1 0), 0, none⟩)),
   is (.int .i64 2),
   is (.bool true),
   is (.bool true),
   is (.bool true),
   is (.pointer (some ⟨(s1 0), 1, none⟩)),
   is (.int .i64 wt),
   row 11 1 #[.int .i64 wt] 3,
   is (.bool true),
   is (.bool true),
   is (.bool true),
   is (.pointer (some ⟨(s1 0), 2, none⟩)),
   is (.agg #[.int .i64 x1, .int .i64 x2]),
   is (.bool true),
   is (.bool true),
   is (.bool true),
   is (.pointer (some ⟨(s1 0), 4, none⟩)),
   is (.agg #[.int .i64 y1, .int .i64 y2]),
   is (.bool true),
   is (.bool true),
   is (.bool true),
   is (.pointer (some ⟨(s1 0), 6, none⟩)),
   is (.int .i64 pr),
   row 27 1 #[.int .i64 pr] 3,
   is (.bool true),
   is (.bool true),
   is (.bool true),
   is (.pointer (some ⟨(s1 0), 7, none⟩)),
   is (.int .i64 st),
   row 33 1 #[.int .i64 st] 3,
   is (.bool true),
   is (.bool true),
   is (.bool true)])
  ⟨is_k, is_k, is_k, is_k, is_k, is_k, is_k, is_k, is_k, is_k, is_k, row_k, is_k, is_k, is_k, is_k, is_k, is_k, is_k, is_k, is_k, is_k, is_k, is_k, is_k, is_k, is_k, row_k, is_k, is_k, is_k, is_k, is_k, row_k, is_k, is_k, is_k, trivial⟩
  ⟨fun f s W i j k l m a => opv rfl rfl (by simp [go_sem, a.e 1 k1_1]) rfl,
  fun f s W i j k l m a => opv rfl rfl (by simp [go_sem, a.e 3 (j 0 rfl), cb br1_0 i 0]) rfl,
  fun f s W i j k l m a => opv rfl rfl (by simp [go_sem, a.e 4 (j 1 rfl)]) rfl,
  fun f s W i j k l m a => opv rfl rfl (by simp [go_sem, a.e 5 (j 2 rfl)]) rfl,
  fun f s W i j k l m a => osure rfl rfl (a.says (d := 6) rfl rfl (j 3 rfl)) (gv (by simp [go_sem, a.e 1 k1_1]) rfl),
  fun f s W i j k l m a => osure rfl rfl (a.says (d := 6) rfl rfl (j 3 rfl)) (gv (by simp [go_sem, a.e 7 (j 4 rfl), cb br1_0 i 0]) rfl),
  fun f s W i j k l m a => osure rfl rfl (a.says (d := 6) rfl rfl (j 3 rfl)) (gv (by simp [go_sem, a.e 8 (j 5 rfl)]) rfl),
  fun f s W i j k l m a => opk (c := false) rfl rfl (fun _ => by simp [go_sem, a.e 6 (j 3 rfl), a.e 9 (j 6 rfl)]) (fun h => absurd h (by decide)),
  fun f s W i j k l m a => opv rfl rfl (by simp [go_sem, a.e 10 (j 7 rfl)]) rfl,
  fun f s W i j k l m a => osure rfl rfl (a.says (d := 11) rfl rfl (j 8 rfl)) (gv (by simp [go_sem, a.e 1 k1_1]) rfl),
  fun f s W i j k l m a => osure rfl rfl (a.says (d := 11) rfl rfl (j 8 rfl)) (gv (by simp [go_sem, a.e 12 (j 9 rfl), cb br1_0 i 1]) rfl),
  fun f s W i j k l m a => osure rfl rfl (a.says (d := 11) rfl rfl (j 8 rfl)) (gr (by simp [go_sem, a.e 13 (j 10 rfl)])),
  fun f s W i j k l m a => osure rfl rfl (a.says (d := 11) rfl rfl (j 8 rfl)) (wp_called (args := #[.int .i64 1, .int .i64 1000, .slice (some ⟨(s 11), 0, none⟩) (1) (1)]) (by simp [go_sem, a.e 14 (j 11 rfl).1]) (bo_within_any (1) (1000) _ 1 1 [wt] W (ii_block (xs := [wt]) (j 11 rfl).2 rfl rfl)) ((fun e W' h => by have h1 := h.1; rw [hw] at h1; exact ⟨_, h1, h.2, rfl⟩))),
  fun f s W i j k l m a => opk (c := true) rfl rfl (fun h => absurd h (by decide)) (fun _ => by simp [go_sem, a.e 11 (j 8 rfl), a.e 15 (j 12 rfl)]),
  fun f s W i j k l m a => opv rfl rfl (by simp [go_sem, a.e 16 (j 13 rfl)]) rfl,
  fun f s W i j k l m a => osure rfl rfl (a.says (d := 17) rfl rfl (j 14 rfl)) (gv (by simp [go_sem, a.e 1 k1_1]) rfl),
  fun f s W i j k l m a => osure rfl rfl (a.says (d := 17) rfl rfl (j 14 rfl)) (gv (by simp [go_sem, a.e 18 (j 15 rfl), cb br1_0 i 2, cb br1_0 i 3]) rfl),
  fun f s W i j k l m a => osure rfl rfl (a.says (d := 17) rfl rfl (j 14 rfl)) (wp_called (by simp [go_sem, a.e 19 (j 16 rfl)]) (bo_isSpan_any (x1) (x2) (1) (1000) W) ((fun e W' h => by have h1 := h.1; rw [hx] at h1; exact ⟨_, h1, h.2, rfl⟩))),
  fun f s W i j k l m a => opk (c := true) rfl rfl (fun h => absurd h (by decide)) (fun _ => by simp [go_sem, a.e 17 (j 14 rfl), a.e 20 (j 17 rfl)]),
  fun f s W i j k l m a => opv rfl rfl (by simp [go_sem, a.e 21 (j 18 rfl)]) rfl,
  fun f s W i j k l m a => osure rfl rfl (a.says (d := 22) rfl rfl (j 19 rfl)) (gv (by simp [go_sem, a.e 1 k1_1]) rfl),
  fun f s W i j k l m a => osure rfl rfl (a.says (d := 22) rfl rfl (j 19 rfl)) (gv (by simp [go_sem, a.e 23 (j 20 rfl), cb br1_0 i 4, cb br1_0 i 5]) rfl),
  fun f s W i j k l m a => osure rfl rfl (a.says (d := 22) rfl rfl (j 19 rfl)) (wp_called (by simp [go_sem, a.e 24 (j 21 rfl)]) (bo_isSpan_any (y1) (y2) (0) (200) W) ((fun e W' h => by have h1 := h.1; rw [hy] at h1; exact ⟨_, h1, h.2, rfl⟩))),
  fun f s W i j k l m a => opk (c := true) rfl rfl (fun h => absurd h (by decide)) (fun _ => by simp [go_sem, a.e 22 (j 19 rfl), a.e 25 (j 22 rfl)]),
  fun f s W i j k l m a => opv rfl rfl (by simp [go_sem, a.e 26 (j 23 rfl)]) rfl,
  fun f s W i j k l m a => osure rfl rfl (a.says (d := 27) rfl rfl (j 24 rfl)) (gv (by simp [go_sem, a.e 1 k1_1]) rfl),
  fun f s W i j k l m a => osure rfl rfl (a.says (d := 27) rfl rfl (j 24 rfl)) (gv (by simp [go_sem, a.e 28 (j 25 rfl), cb br1_0 i 6]) rfl),
  fun f s W i j k l m a => osure rfl rfl (a.says (d := 27) rfl rfl (j 24 rfl)) (gr (by simp [go_sem, a.e 29 (j 26 rfl)])),
  fun f s W i j k l m a => osure rfl rfl (a.says (d := 27) rfl rfl (j 24 rfl)) (wp_called (args := #[.int .i64 0, .int .i64 1000000, .slice (some ⟨(s 27), 0, none⟩) (1) (1)]) (by simp [go_sem, a.e 30 (j 27 rfl).1]) (bo_within_any (0) (1000000) _ 1 1 [pr] W (ii_block (xs := [pr]) (j 27 rfl).2 rfl rfl)) ((fun e W' h => by have h1 := h.1; rw [hp] at h1; exact ⟨_, h1, h.2, rfl⟩))),
  fun f s W i j k l m a => opk (c := true) rfl rfl (fun h => absurd h (by decide)) (fun _ => by simp [go_sem, a.e 27 (j 24 rfl), a.e 31 (j 28 rfl)]),
  fun f s W i j k l m a => opv rfl rfl (by simp [go_sem, a.e 32 (j 29 rfl)]) rfl,
  fun f s W i j k l m a => osure rfl rfl (a.says (d := 33) rfl rfl (j 30 rfl)) (gv (by simp [go_sem, a.e 1 k1_1]) rfl),
  fun f s W i j k l m a => osure rfl rfl (a.says (d := 33) rfl rfl (j 30 rfl)) (gv (by simp [go_sem, a.e 34 (j 31 rfl), cb br1_0 i 7]) rfl),
  fun f s W i j k l m a => osure rfl rfl (a.says (d := 33) rfl rfl (j 30 rfl)) (gr (by simp [go_sem, a.e 35 (j 32 rfl)])),
  fun f s W i j k l m a => osure rfl rfl (a.says (d := 33) rfl rfl (j 30 rfl)) (wp_called (args := #[.int .i64 0, .int .i64 10000, .slice (some ⟨(s 33), 0, none⟩) (1) (1)]) (by simp [go_sem, a.e 36 (j 33 rfl).1]) (bo_within_any (0) (10000) _ 1 1 [st] W (ii_block (xs := [st]) (j 33 rfl).2 rfl rfl)) ((fun e W' h => by have h1 := h.1; rw [hst] at h1; exact ⟨_, h1, h.2, rfl⟩))),
  fun f s W i j k l m a => opk (c := true) rfl rfl (fun h => absurd h (by decide)) (fun _ => by simp [go_sem, a.e 33 (j 30 rfl), a.e 37 (j 34 rfl)]),
  fun f s W i j k l m a => opv rfl rfl (by simp [go_sem, a.e 38 (j 35 rfl)]) rfl, trivial⟩ ?_
 intro f2 s2 W2 hB2 g2 hg2
 have fB2 := hB2.f fB1
 have z2 := hB2.below.size
 have b2_0 := hB2.b br1_0
 obtain ⟨r2_11, br2_11⟩ := hB2.is 11
 have lr2_11 := hB2.lr 11 br2_11
 obtain ⟨r2_27, br2_27⟩ := hB2.is 27
 have lr2_27 := hB2.lr 27 br2_27
 obtain ⟨r2_33, br2_33⟩ := hB2.is 33
 have lr2_33 := hB2.lr 33 br2_33
 have ne2_11_27 := hB2.nb 11 27
 have ne2_11_33 := hB2.nb 11 33
 have ne2_27_33 := hB2.nb 27 33
 refine hK2 _ _ ?_
 have k2_2 := kt hg2 2 (hB2.is 36)
 refine wp_ret ?_
 refine leave_one (N := 39) (v := .bool true) (.inr rfl) Try.results73 rfl k2_2 ?_
 exact ⟨rfl, fB2⟩
set_option maxRecDepth 100000 in
set_option maxHeartbeats 4000000 in
theorem isFlute_1 (pi dr x1 x2 : Int) (w : World) (gpi : 0 ≤ pi ∧ pi ≤ 10000) (hw : within 1000 10000 [pi] = true) (hd' : within pi (2 * pi) [dr] = true) (hx : isSpan (x1, x2) 1 10000 = true) :
  Calls Try.prog 76 #[.agg #[.int .i64 pi, .int .i64 dr, .int .i64 x1, .int .i64 x2]] w (fun e w' => e = .returned (.bool true) ∧ Below w.heap.size w w') := by
 refine calls_fr Try.func76 Try.ntmps76 rfl rfl fun g hg => ?_
 have k0 : g 0 = .agg #[.int .i64 pi, .int .i64 dr, .int .i64 x1, .int .i64 x2] := hg 0
 clear hg
 have fB0 : Below w.heap.size w w := Below.refl _ _
 refine wp_seq_k fun K1 hK1 => ?_
 refine region_dk 2 [(1, 0), (2, 1)] [[], []] (rel [bx 0 #[.int .i64 pi, .int .i64 dr, .int .i64 x1, .int .i64 x2] 70,
   is (.bool false)])
  ⟨bx_k, is_k, trivial⟩
  ⟨fun f s W i j k l m a => opb rfl rfl (by simp [go_sem, a.e 0 k0]),
  fun f s W i j k l m a => opv rfl rfl (by simp [go_sem]) rfl, trivial⟩ ?_
 intro f1 s1 W1 hB1 g1 hg1
 have fB1 := hB1.f fB0
 have z1 := hB1.below.size
 obtain ⟨r1_0, br1_0⟩ := hB1.is 0
 have lr1_0 := hB1.lr 0 br1_0
 refine hK1 _ _ ?_
 have k1_1 := kt hg1 1 r1_0
 have k1_2 := kt hg1 2 (hB1.is 1)
 refine wp_seq_k fun K2 hK2 => ?_
 refine region_dk 21 [(3, 0), (4, 1), (5, 2), (6, 3), (7, 4), (8, 5), (9, 6), (10, 7), (11, 8), (12, 9), (13, 10), (14, 11), (15, 12), (16, 13), (17, 14), (18, 15), (19, 16), (20, 17), (21, 18), (22, 19), (2, 20)] [[], [0], [0, 1], [0, 1, 2], [0, 1, 2, 3], [0, 1, 2, 3, 4], [0, 1, 2, 3, 4, 5], [0, 1, 2, 3, 4], [0, 1, 2, 3, 4, 7], [0, 1, 2, 3, 4, 7, 8], [0, 1, 2, 3, 4], [0, 1, 2, 3, 4, 10], [0, 1, 2, 3, 4, 10, 11], [0, 1, 2, 3, 4, 5, 6, 7, 8, 9, 10, 11, 12], [0, 1, 2, 3, 4, 5, 6, 7, 8, 9, 10, 11, 12, 13], [0, 1, 2, 3, 4, 5, 6, 7, 8, 9, 10, 11, 12, 13, 14], [0, 1, 2, 3, 4, 5, 6, 7, 8, 9, 10, 11, 12, 13, 14, 15], [0, 1, 2, 3, 4, 5, 6, 7, 8, 9, 10, 11, 12, 13, 14, 15, 16], [0, 1, 2, 3, 4, 5, 6, 7, 8, 9, 10, 11, 12, 13, 14, 15, 16, 17], [0, 1, 2, 3, 4, 5, 6, 7, 8, 9, 10, 11, 12, 13, 14, 15, 16, 17, 18], [0, 1, 2, 3, 4, 5, 6, 7, 8, 9, 10, 11, 12, 13, 14, 15, 16, 17, 18, 19]] (rel [is (.pointer (some ⟨(s1 0), 0, none⟩)),
   is (.int .i64 pi),
   row 2 1 #[.int .i64 pi] 3,
   is (.bool true),
   is (.bool true),
   is (.pointer (some ⟨(s1 0), 0, none⟩)),
   is (.int .i64 pi),
   is (.pointer (some ⟨(s1 0), 0, none⟩)),
   is (.int .i64 pi),
   is (.int .i64 (2 * pi)),
   is (.pointer (some ⟨(s1 0), 1, none⟩)),
   is (.int .i64 dr),
   row 12 1 #[.int .i64 dr] 3,
   is (.bool true),
   is (.bool true),
   is (.bool true),
   is (.pointer (some ⟨(s1 0), 2, none⟩)),
   is (.agg #[.int .i64 x1, .int .i64 x2]),
   is (.bool true),
   is (.bool true),
   is (.bool true)])
  ⟨is_k, is_k, row_k, is_k, is_k, is_k, is_k, is_k, is_k, is_k, is_k, is_k, row_k, is_k, is_k, is_k, is_k, is_k, is_k, is_k, is_k, trivial⟩
  ⟨fun f s W i j k l m a => opv rfl rfl (by simp [go_sem, a.e 1 k1_1]) rfl,
  fun f s W i j k l m a => opv rfl rfl (by simp [go_sem, a.e 3 (j 0 rfl), cb br1_0 i 0]) rfl,
  fun f s W i j k l m a => opr rfl rfl (by simp [go_sem, a.e 4 (j 1 rfl)]),
  fun f s W i j k l m a => opDo_call (args := #[.int .i64 1000, .int .i64 10000, .slice (some ⟨(s 2), 0, none⟩) (1) (1)]) rfl rfl (by simp [go_sem, a.e 5 (j 2 rfl).1]) (bo_within_any (1000) (10000) _ 1 1 [pi] W (ii_block (xs := [pi]) (j 2 rfl).2 rfl rfl)) ((fun e W' h => by have h1 := h.1; rw [hw] at h1; exact ⟨_, h1, h.2, rfl⟩)),
  fun f s W i j k l m a => opv rfl rfl (by simp [go_sem, a.e 6 (j 3 rfl)]) rfl,
  fun f s W i j k l m a => osure rfl rfl (a.says (d := 7) rfl rfl (j 4 rfl)) (gv (by simp [go_sem, a.e 1 k1_1]) rfl),
  fun f s W i j k l m a => osure rfl rfl (a.says (d := 7) rfl rfl (j 4 rfl)) (gv (by simp [go_sem, a.e 8 (j 5 rfl), cb br1_0 i 0]) rfl),
  fun f s W i j k l m a => osure rfl rfl (a.says (d := 7) rfl rfl (j 4 rfl)) (gv (by simp [go_sem, a.e 1 k1_1]) rfl),
  fun f s W i j k l m a => osure rfl rfl (a.says (d := 7) rfl rfl (j 4 rfl)) (gv (by simp [go_sem, a.e 10 (j 7 rfl), cb br1_0 i 0]) rfl),
  fun f s W i j k l m a => osure rfl rfl (a.says (d := 7) rfl rfl (j 4 rfl)) (gv (by simp [go_sem, a.e 11 (j 8 rfl), IntWalk.i64_in (2 * pi) (by omega)]) rfl),
  fun f s W i j k l m a => osure rfl rfl (a.says (d := 7) rfl rfl (j 4 rfl)) (gv (by simp [go_sem, a.e 1 k1_1]) rfl),
  fun f s W i j k l m a => osure rfl rfl (a.says (d := 7) rfl rfl (j 4 rfl)) (gv (by simp [go_sem, a.e 13 (j 10 rfl), cb br1_0 i 1]) rfl),
  fun f s W i j k l m a => osure rfl rfl (a.says (d := 7) rfl rfl (j 4 rfl)) (gr (by simp [go_sem, a.e 14 (j 11 rfl)])),
  fun f s W i j k l m a => osure rfl rfl (a.says (d := 7) rfl rfl (j 4 rfl)) (wp_called (args := #[.int .i64 pi, .int .i64 (2 * pi), .slice (some ⟨(s 12), 0, none⟩) (1) (1)]) (by simp [go_sem, a.e 9 (j 6 rfl), a.e 12 (j 9 rfl), a.e 15 (j 12 rfl).1]) (bo_within_any (pi) (2 * pi) _ 1 1 [dr] W (ii_block (xs := [dr]) (j 12 rfl).2 rfl rfl)) ((fun e W' h => by have h1 := h.1; rw [hd'] at h1; exact ⟨_, h1, h.2, rfl⟩))),
  fun f s W i j k l m a => opk (c := true) rfl rfl (fun h => absurd h (by decide)) (fun _ => by simp [go_sem, a.e 7 (j 4 rfl), a.e 16 (j 13 rfl)]),
  fun f s W i j k l m a => opv rfl rfl (by simp [go_sem, a.e 17 (j 14 rfl)]) rfl,
  fun f s W i j k l m a => osure rfl rfl (a.says (d := 18) rfl rfl (j 15 rfl)) (gv (by simp [go_sem, a.e 1 k1_1]) rfl),
  fun f s W i j k l m a => osure rfl rfl (a.says (d := 18) rfl rfl (j 15 rfl)) (gv (by simp [go_sem, a.e 19 (j 16 rfl), cb br1_0 i 2, cb br1_0 i 3]) rfl),
  fun f s W i j k l m a => osure rfl rfl (a.says (d := 18) rfl rfl (j 15 rfl)) (wp_called (by simp [go_sem, a.e 20 (j 17 rfl)]) (bo_isSpan_any (x1) (x2) (1) (10000) W) ((fun e W' h => by have h1 := h.1; rw [hx] at h1; exact ⟨_, h1, h.2, rfl⟩))),
  fun f s W i j k l m a => opk (c := true) rfl rfl (fun h => absurd h (by decide)) (fun _ => by simp [go_sem, a.e 18 (j 15 rfl), a.e 21 (j 18 rfl)]),
  fun f s W i j k l m a => opv rfl rfl (by simp [go_sem, a.e 22 (j 19 rfl)]) rfl, trivial⟩ ?_
 intro f2 s2 W2 hB2 g2 hg2
 have fB2 := hB2.f fB1
 have z2 := hB2.below.size
 have b2_0 := hB2.b br1_0
 obtain ⟨r2_2, br2_2⟩ := hB2.is 2
 have lr2_2 := hB2.lr 2 br2_2
 obtain ⟨r2_12, br2_12⟩ := hB2.is 12
 have lr2_12 := hB2.lr 12 br2_12
 have ne2_2_12 := hB2.nb 2 12
 refine hK2 _ _ ?_
 have k2_2 := kt hg2 2 (hB2.is 20)
 refine wp_ret ?_
 refine leave_one (N := 23) (v := .bool true) (.inr rfl) Try.results76 rfl k2_2 ?_
 exact ⟨rfl, fB2⟩
theorem isPaper_ok (p : Pa) (h : PaIn p) (w : World) : Calls Try.prog 73 #[.agg #[.int .i64 p.kind, .int .i64 p.weight, .int .i64 p.t1, .int .i64 p.t2, .int .i64 p.m1, .int .i64 p.m2, .int .i64 p.price, .int .i64 p.strong]] w (fun e w' => e = .returned (.bool true) ∧ Below w.heap.size w w') := by
  have hw := within_all1 h.weight
  have hx := span_yes h.thick
  have hy := span_yes h.moist
  have hp := within_all1 h.price
  have hs := within_all1 h.strong
  rcases h.kind with e | e
  · rw [e]; exact isPaper_1 p.weight p.t1 p.t2 p.m1 p.m2 p.price p.strong w hw hx hy hp hs
  · rw [e]; exact isPaper_2 p.weight p.t1 p.t2 p.m1 p.m2 p.price p.strong w hw hx hy hp hs
theorem isFlute_ok (q : Fu) (h : FuIn q) (w : World) : Calls Try.prog 76 #[.agg #[.int .i64 q.pitch, .int .i64 q.draw, .int .i64 q.h1, .int .i64 q.h2]] w (fun e w' => e = .returned (.bool true) ∧ Below w.heap.size w w') :=
  isFlute_1 q.pitch q.draw q.h1 q.h2 w (by have := h.pitch; omega) (within_all1 h.pitch) (within_all1 h.draw) (span_yes h.high)
set_option maxRecDepth 100000 in
set_option maxHeartbeats 400000 in
theorem checkP (p : Pa) (hin : PaIn p) (w : World) :
  Calls Try.prog 72 #[.agg #[.int .i64 p.kind, .int .i64 p.weight, .int .i64 p.t1, .int .i64 p.t2, .int .i64 p.m1, .int .i64 p.m2, .int .i64 p.price, .int .i64 p.strong]] w (fun e w' => e = .returned (.bool false) ∧ Below w.heap.size w w') := by
 refine calls_fr Try.func72 Try.ntmps72 rfl rfl fun g hg => ?_
 have k0 : g 0 = .agg #[.int .i64 p.kind, .int .i64 p.weight, .int .i64 p.t1, .int .i64 p.t2, .int .i64 p.m1, .int .i64 p.m2, .int .i64 p.price, .int .i64 p.strong] := hg 0
 clear hg
 have fB0 : Below w.heap.size w w := Below.refl _ _
 refine wp_seq_k fun K1 hK1 => ?_
 refine region_dk 2 [(1, 0), (2, 1)] [[], []] (rel [bx 0 #[.int .i64 p.kind, .int .i64 p.weight, .int .i64 p.t1, .int .i64 p.t2, .int .i64 p.m1, .int .i64 p.m2, .int .i64 p.price, .int .i64 p.strong] 68,
   is (.bool false)])
  ⟨bx_k, is_k, trivial⟩
  ⟨fun f s W c d h i j a => opb rfl rfl (by simp [go_sem, a.e 0 k0]),
  fun f s W c d h i j a => opv rfl rfl (by simp [go_sem]) rfl, trivial⟩ ?_
 intro f1 s1 W1 hB1 g1 hg1
 have fB1 := hB1.f fB0
 have z1 := hB1.below.size
 obtain ⟨r1_0, br1_0⟩ := hB1.is 0
 have lr1_0 := hB1.lr 0 br1_0
 refine hK1 _ _ ?_
 have k1_1 := kt hg1 1 r1_0
 have k1_2 := kt hg1 2 (hB1.is 1)
 refine wp_seq_k fun K2 hK2 => ?_
 refine region_dk 4 [(3, 0), (4, 1), (5, 2), (2, 3)] [[], [0], [0, 1], [0, 1, 2]] (rel [is (.agg #[.int .i64 p.kind, .int .i64 p.weight, .int .i64 p.t1, .int .i64 p.t2, .int .i64 p.m1, .int .i64 p.m2, .int .i64 p.price, .int .i64 p.strong]),
   is (.bool true),
   is (.bool false),
   is (.bool false)])
  ⟨is_k, is_k, is_k, is_k, trivial⟩
  ⟨fun f s W c d h i j a => opv rfl rfl (by simp [go_sem, a.e 1 k1_1, cb br1_0 c 0, cb br1_0 c 1, cb br1_0 c 2, cb br1_0 c 3, cb br1_0 c 4, cb br1_0 c 5, cb br1_0 c 6, cb br1_0 c 7]) rfl,
  fun f s W c d h i j a => opc rfl rfl (by simp [go_sem, a.e 3 (d 0 rfl)]) (isPaper_ok p hin W),
  fun f s W c d h i j a => opv rfl rfl (by simp [go_sem, a.e 4 (d 1 rfl)]) rfl,
  fun f s W c d h i j a => opv rfl rfl (by simp [go_sem, a.e 5 (d 2 rfl)]) rfl, trivial⟩ ?_
 intro f2 s2 W2 hB2 g2 hg2
 have fB2 := hB2.f fB1
 have z2 := hB2.below.size
 have b2_0 := hB2.b br1_0
 refine hK2 _ _ ?_
 have k2_2 := kt hg2 2 (hB2.is 3)
 refine wp_ret ?_
 refine leave_one (N := 6) (v := .bool false) (.inr rfl) Try.results72 rfl k2_2 ?_
 exact ⟨rfl, fB2⟩
set_option maxRecDepth 100000 in
set_option maxHeartbeats 400000 in
theorem checkF (q : Fu) (hin : FuIn q) (w : World) :
  Calls Try.prog 75 #[.agg #[.int .i64 q.pitch, .int .i64 q.draw, .int .i64 q.h1, .int .i64 q.h2]] w (fun e w' => e = .returned (.bool false) ∧ Below w.heap.size w w') := by
 refine calls_fr Try.func75 Try.ntmps75 rfl rfl fun g hg => ?_
 have k0 : g 0 = .agg #[.int .i64 q.pitch, .int .i64 q.draw, .int .i64 q.h1, .int .i64 q.h2] := hg 0
 clear hg
 have fB0 : Below w.heap.size w w := Below.refl _ _
 refine wp_seq_k fun K1 hK1 => ?_
 refine region_dk 2 [(1, 0), (2, 1)] [[], []] (rel [bx 0 #[.int .i64 q.pitch, .int .i64 q.draw, .int .i64 q.h1, .int .i64 q.h2] 70,
   is (.bool false)])
  ⟨bx_k, is_k, trivial⟩
  ⟨fun f s W c d h i j a => opb rfl rfl (by simp [go_sem, a.e 0 k0]),
  fun f s W c d h i j a => opv rfl rfl (by simp [go_sem]) rfl, trivial⟩ ?_
 intro f1 s1 W1 hB1 g1 hg1
 have fB1 := hB1.f fB0
 have z1 := hB1.below.size
 obtain ⟨r1_0, br1_0⟩ := hB1.is 0
 have lr1_0 := hB1.lr 0 br1_0
 refine hK1 _ _ ?_
 have k1_1 := kt hg1 1 r1_0
 have k1_2 := kt hg1 2 (hB1.is 1)
 refine wp_seq_k fun K2 hK2 => ?_
 refine region_dk 4 [(3, 0), (4, 1), (5, 2), (2, 3)] [[], [0], [0, 1], [0, 1, 2]] (rel [is (.agg #[.int .i64 q.pitch, .int .i64 q.draw, .int .i64 q.h1, .int .i64 q.h2]),
   is (.bool true),
   is (.bool false),
   is (.bool false)])
  ⟨is_k, is_k, is_k, is_k, trivial⟩
  ⟨fun f s W c d h i j a => opv rfl rfl (by simp [go_sem, a.e 1 k1_1, cb br1_0 c 0, cb br1_0 c 1, cb br1_0 c 2, cb br1_0 c 3]) rfl,
  fun f s W c d h i j a => opc rfl rfl (by simp [go_sem, a.e 3 (d 0 rfl)]) (isFlute_ok q hin W),
  fun f s W c d h i j a => opv rfl rfl (by simp [go_sem, a.e 4 (d 1 rfl)]) rfl,
  fun f s W c d h i j a => opv rfl rfl (by simp [go_sem, a.e 5 (d 2 rfl)]) rfl, trivial⟩ ?_
 intro f2 s2 W2 hB2 g2 hg2
 have fB2 := hB2.f fB1
 have z2 := hB2.below.size
 have b2_0 := hB2.b br1_0
 refine hK2 _ _ ?_
 have k2_2 := kt hg2 2 (hB2.is 3)
 refine wp_ret ?_
 refine leave_one (N := 6) (v := .bool false) (.inr rfl) Try.results75 rfl k2_2 ?_
 exact ⟨rfl, fB2⟩
set_option maxRecDepth 100000 in
set_option maxHeartbeats 4000000 in
theorem index_checkP (ps : Nat → Pa) (bb oo nn cc : Nat) (w : World) (h8 : nn ≤ 8) (hR : PaR w bb oo nn ps) (hin : ∀ i, i < nn → PaIn (ps i)) :
  Calls Try.prog 91 #[.slice (some ⟨bb, oo, none⟩) (nn) (cc), .func (.func 72) #[] #[]] w (fun e w' => e = .returned (.int .i64 (-1)) ∧ Below w.heap.size w w') := by
 refine calls_fr Try.func91 Try.ntmps91 rfl rfl fun g hg => ?_
 have k0 : g 0 = .slice (some ⟨bb, oo, none⟩) (nn) (cc) := hg 0
 have k1 : g 1 = .func (.func 72) #[] #[] := hg 1
 clear hg
 have fB0 : Below w.heap.size w w := Below.refl _ _
 refine wp_seq_k fun K1 hK1 => ?_
 refine region_dk 1 [(4, 0)] [[]] (rel [is (.int .i64 0)])
  ⟨is_k, trivial⟩
  ⟨fun f s W b c d h j a => opv rfl rfl (by simp [go_sem]) rfl, trivial⟩ ?_
 intro f1 s1 W1 hB1 g1 hg1
 have fB1 := hB1.f fB0
 have z1 := hB1.below.size
 refine hK1 _ _ ?_
 have k1_0 := kt hg1 0 k0
 have k1_1 := kt hg1 1 k1
 have k1_4 := kt hg1 4 (hB1.is 0)
 refine wp_seq_k fun K2 hK2 => ?_
 refine wp_seq_k fun K3 hK3 => ?_
 refine region_dk 3 [(6, 0), (7, 1), (8, 2)] [[], [0], []] (rel [is (.slice (some ⟨bb, oo, none⟩) (nn) (cc)),
   is (.int .i64 ((nn : Int))),
   is (.int .i64 0)])
  ⟨is_k, is_k, is_k, trivial⟩
  ⟨fun f s W b c d h j a => opv rfl rfl (by simp [go_sem, a.e 0 k1_0]) rfl,
  fun f s W b c d h j a => opv rfl rfl (by simp [go_sem, a.e 6 (c 0 rfl)]) rfl,
  fun f s W b c d h j a => opv rfl rfl (by simp [go_sem]) rfl, trivial⟩ ?_
 intro f2 s2 W2 hB2 g2 hg2
 have fB2 := hB2.f fB1
 have z2 := hB2.below.size
 refine hK3 _ _ ?_
 have k2_0 := kt hg2 0 k1_0
 have k2_1 := kt hg2 1 k1_1
 have k2_4 := kt hg2 4 k1_4
 have k2_7 := kt hg2 7 (hB2.is 1)
 have k2_8 := kt hg2 8 (hB2.is 2)
 refine wp_block ?_
 refine wp_loop_n (fun m_ a_ W_ => ∃ g_ : Nat → Value, a_ = fr 19 g_ ∧ (∃ i : Nat, m_ = nn - i ∧ g_ 0 = .slice (some ⟨bb, oo, none⟩) (nn) (cc) ∧ g_ 1 = .func (.func 72) #[] #[] ∧ g_ 4 = .int .i64 0 ∧ g_ 7 = .int .i64 ((nn : Int)) ∧ g_ 8 = .int .i64 ((i : Int)) ∧ Below w.heap.size w W_ ∧ W2.heap.size ≤ W_.heap.size ∧ (i ≤ nn))) ⟨_, g2, rfl, 0, rfl, k2_0, k2_1, k2_4, k2_7, k2_8.trans (by rfl), fB2, Nat.le_refl _, (by omega)⟩ ?_
 rintro _ _ W_1 ⟨g_1, rfl, i, rfl, k_1_0, k_1_1, k_1_4, k_1_7, k_1_8, fB_1, z_1, lp0⟩
 refine wp_seq_k fun K4 hK4 => ?_
 refine region_dk 1 [(9, 0)] [[]] (rel [is (.bool (decide ((i : Int) < (nn : Int))))])
  ⟨is_k, trivial⟩
  ⟨fun f s W b c d h j a => opv rfl rfl (by simp [go_sem, a.e 8 k_1_8, a.e 7 k_1_7]) rfl, trivial⟩ ?_
 intro f3 s3 W3 hB3 g3 hg3
 have fB3 := hB3.f fB_1
 have z3 := hB3.below.size
 refine hK4 _ _ ?_
 have k3_0 := kt hg3 0 k_1_0
 have k3_1 := kt hg3 1 k_1_1
 have k3_4 := kt hg3 4 k_1_4
 have k3_7 := kt hg3 7 k_1_7
 have k3_8 := kt hg3 8 k_1_8
 have k3_9 := kt hg3 9 (hB3.is 0)
 refine wp_seq_k fun K5 hK5 => ?_
 refine wp_cond_split (t := decide ((i : Int) < (nn : Int))) ((fr_eval rfl).trans k3_9) (fun hc6 => ?_) (fun hc6 => ?_)
 ·
  have hc6' := hc6; try simp only [ba] at hc6'
  have ln : i < nn := by omega
  have lz : (i : Int) < (nn : Int) := by omega
  have li := Nat.not_le.2 ln
  refine wp_skip ?_
  refine hK5 _ _ ?_
  refine wp_seq_k fun K7 hK7 => ?_
  refine wp_block ?_
  refine wp_seq_k fun K8 hK8 => ?_
  refine region_dk 2 [(10, 0), (5, 1)] [[], [0]] (rel [is (.int .i64 ((i : Int))),
   is (.int .i64 ((i : Int)))])
   ⟨is_k, is_k, trivial⟩
   ⟨fun f s W b c d h j a => opv rfl rfl (by simp [go_sem, a.e 8 k3_8]) rfl,
  fun f s W b c d h j a => opv rfl rfl (by simp [go_sem, a.e 10 (c 0 rfl)]) rfl, trivial⟩ ?_
  intro f4 s4 W4 hB4 g4 hg4
  have fB4 := hB4.f fB3
  have z4 := hB4.below.size
  refine hK8 _ _ ?_
  have k4_0 := kt hg4 0 k3_0
  have k4_1 := kt hg4 1 k3_1
  have k4_4 := kt hg4 4 k3_4
  have k4_7 := kt hg4 7 k3_7
  have k4_8 := kt hg4 8 k3_8
  have k4_5 := kt hg4 5 (hB4.is 1)
  refine wp_seq_k fun K9 hK9 => ?_
  refine region_dk 6 [(11, 0), (12, 1), (13, 2), (14, 3), (15, 4), (16, 5)] [[], [], [], [1, 2], [1, 2, 3], [0, 1, 2, 3, 4]] (rel [is (.func (.func 72) #[] #[]),
   is (.slice (some ⟨bb, oo, none⟩) (nn) (cc)),
   is (.int .i64 ((i : Int))),
   is (.pointer (some ⟨bb, oo + i * 8, none⟩)),
   is (.agg #[.int .i64 ((ps i).kind), .int .i64 ((ps i).weight), .int .i64 ((ps i).t1), .int .i64 ((ps i).t2), .int .i64 ((ps i).m1), .int .i64 ((ps i).m2), .int .i64 ((ps i).price), .int .i64 ((ps i).strong)]),
   is (.bool false)])
   ⟨is_k, is_k, is_k, is_k, is_k, is_k, trivial⟩
   ⟨fun f s W b c d h j a => opv rfl rfl (by simp [go_sem, a.e 1 k4_1]) rfl,
  fun f s W b c d h j a => opv rfl rfl (by simp [go_sem, a.e 0 k4_0]) rfl,
  fun f s W b c d h j a => opv rfl rfl (by simp [go_sem, a.e 5 k4_5]) rfl,
  fun f s W b c d h j a => opv rfl rfl (by simp [go_sem, a.e 12 (c 1 rfl), a.e 13 (c 2 rfl), li, ln, lz]) rfl,
  fun f s W b c d h j a => by have k := below_trans fB4 b; obtain ⟨e0_, e1_, e2_, e3_, e4_, e5_, e6_, e7_⟩ := (hR.below k).2 i ln; exact opv rfl rfl (by simp [go_sem, a.e 14 (c 3 rfl), e0_, e1_, e2_, e3_, e4_, e5_, e6_, e7_]) rfl,
  fun f s W b c d h j a => opc rfl rfl (by simp [go_sem, a.e 15 (c 4 rfl), a.e 11 (c 0 rfl)]) (checkP (ps i) (hin i ln) W), trivial⟩ ?_
  intro f5 s5 W5 hB5 g5 hg5
  have fB5 := hB5.f fB4
  have z5 := hB5.below.size
  refine hK9 _ _ ?_
  have k5_0 := kt hg5 0 k4_0
  have k5_1 := kt hg5 1 k4_1
  have k5_4 := kt hg5 4 k4_4
  have k5_7 := kt hg5 7 k4_7
  have k5_8 := kt hg5 8 k4_8
  have k5_5 := kt hg5 5 k4_5
  have k5_16 := kt hg5 16 (hB5.is 5)
  refine wp_cond_false ((fr_eval rfl).trans k5_16) ?_
  refine wp_skip ?_
  refine inBlock_normal ?_
  refine hK7 _ _ ?_
  refine region_dk 2 [(18, 0), (8, 1)] [[], [0]] (rel [is (.int .i64 ((i : Int) + 1)),
   is (.int .i64 ((i : Int) + 1))])
   ⟨is_k, is_k, trivial⟩
   ⟨fun f s W b c d h j a => opv rfl rfl (by simp [go_sem, a.e 8 ((h 1 8 rfl rfl).trans k5_8), IntWalk.i64_in ((i : Int) + 1) (by omega)]) rfl,
  fun f s W b c d h j a => opv rfl rfl (by simp [go_sem, a.e 18 (c 0 rfl)]) rfl, trivial⟩ ?_
  intro f6 s6 W6 hB6 g6 hg6
  have fB6 := hB6.f fB5
  have z6 := hB6.below.size
  refine wpOps_end ?_
  have k6_0 := kt hg6 0 k5_0
  have k6_1 := kt hg6 1 k5_1
  have k6_4 := kt hg6 4 k5_4
  have k6_7 := kt hg6 7 k5_7
  have k6_8 := kt hg6 8 (hB6.is 1)
  refine then_normal ?_
  exact ⟨_, by omega, g6, rfl, i + 1, rfl, k6_0, k6_1, k6_4, k6_7, k6_8.trans (by go_num), fB6, (by omega), (by omega)⟩
 ·
  have hc6' := hc6; try simp only [ba] at hc6'
  refine wp_exit ?_
  refine then_exit ?_
  refine then_exit ?_
  refine inBlock_at ?_
  refine hK2 _ _ ?_
  refine wp_seq_k fun K11 hK11 => ?_
  refine region_dk 1 [(4, 0)] [[]] (rel [is (.int .i64 (-1))])
   ⟨is_k, trivial⟩
   ⟨fun f s W b c d h j a => opv rfl rfl (by simp [go_sem]) rfl, trivial⟩ ?_
  intro f7 s7 W7 hB7 g7 hg7
  have fB7 := hB7.f fB3
  have z7 := hB7.below.size
  refine hK11 _ _ ?_
  have k7_4 := kt hg7 4 (hB7.is 0)
  refine wp_ret ?_
  refine leave_one (N := 19) (v := .int .i64 (-1)) (.inr rfl) Try.results91 rfl k7_4 ?_
  exact ⟨rfl, fB7⟩
set_option maxRecDepth 100000 in
set_option maxHeartbeats 400000 in
theorem contains_checkP (ps : Nat → Pa) (bb oo nn cc : Nat) (w : World) (h8 : nn ≤ 8) (hR : PaR w bb oo nn ps) (hin : ∀ i, i < nn → PaIn (ps i)) :
  Calls Try.prog 71 #[.slice (some ⟨bb, oo, none⟩) (nn) (cc), .func (.func 72) #[] #[]] w (fun e w' => e = .returned (.bool false) ∧ Below w.heap.size w w') := by
 refine calls_fr Try.func71 Try.ntmps71 rfl rfl fun g hg => ?_
 have k0 : g 0 = .slice (some ⟨bb, oo, none⟩) (nn) (cc) := hg 0
 have k1 : g 1 = .func (.func 72) #[] #[] := hg 1
 clear hg
 have fB0 : Below w.heap.size w w := Below.refl _ _
 refine wp_seq_k fun K1 hK1 => ?_
 refine region_dk 1 [(4, 0)] [[]] (rel [is (.bool false)])
  ⟨is_k, trivial⟩
  ⟨fun f s W b c d h j a => opv rfl rfl (by simp [go_sem]) rfl, trivial⟩ ?_
 intro f1 s1 W1 hB1 g1 hg1
 have fB1 := hB1.f fB0
 have z1 := hB1.below.size
 refine hK1 _ _ ?_
 have k1_0 := kt hg1 0 k0
 have k1_1 := kt hg1 1 k1
 have k1_4 := kt hg1 4 (hB1.is 0)
 refine wp_seq_k fun K2 hK2 => ?_
 refine region_dk 5 [(5, 0), (6, 1), (7, 2), (8, 3), (4, 4)] [[], [], [0, 1], [0, 1, 2], [0, 1, 2, 3]] (rel [is (.slice (some ⟨bb, oo, none⟩) (nn) (cc)),
   is (.func (.func 72) #[] #[]),
   is (.int .i64 (-1)),
   is (.bool false),
   is (.bool false)])
  ⟨is_k, is_k, is_k, is_k, is_k, trivial⟩
  ⟨fun f s W b c d h j a => opv rfl rfl (by simp [go_sem, a.e 0 k1_0]) rfl,
  fun f s W b c d h j a => opv rfl rfl (by simp [go_sem, a.e 1 k1_1]) rfl,
  fun f s W b c d h j a => by have k := below_trans fB1 b; exact opc rfl rfl (by simp [go_sem, a.e 5 (c 0 rfl), a.e 6 (c 1 rfl)]) (index_checkP ps bb oo nn cc W h8 (hR.below k) hin),
  fun f s W b c d h j a => opv rfl rfl (by simp [go_sem, a.e 7 (c 2 rfl)]) rfl,
  fun f s W b c d h j a => opv rfl rfl (by simp [go_sem, a.e 8 (c 3 rfl)]) rfl, trivial⟩ ?_
 intro f2 s2 W2 hB2 g2 hg2
 have fB2 := hB2.f fB1
 have z2 := hB2.below.size
 refine hK2 _ _ ?_
 have k2_4 := kt hg2 4 (hB2.is 4)
 refine wp_ret ?_
 refine leave_one (N := 9) (v := .bool false) (.inr rfl) Try.results71 rfl k2_4 ?_
 exact ⟨rfl, fB2⟩
set_option maxRecDepth 100000 in
set_option maxHeartbeats 4000000 in
theorem index_checkF (qs : Nat → Fu) (bb oo nn cc : Nat) (w : World) (h8 : nn ≤ 8) (hR : FuR w bb oo nn qs) (hin : ∀ i, i < nn → FuIn (qs i)) :
  Calls Try.prog 93 #[.slice (some ⟨bb, oo, none⟩) (nn) (cc), .func (.func 75) #[] #[]] w (fun e w' => e = .returned (.int .i64 (-1)) ∧ Below w.heap.size w w') := by
 refine calls_fr Try.func93 Try.ntmps93 rfl rfl fun g hg => ?_
 have k0 : g 0 = .slice (some ⟨bb, oo, none⟩) (nn) (cc) := hg 0
 have k1 : g 1 = .func (.func 75) #[] #[] := hg 1
 clear hg
 have fB0 : Below w.heap.size w w := Below.refl _ _
 refine wp_seq_k fun K1 hK1 => ?_
 refine region_dk 1 [(4, 0)] [[]] (rel [is (.int .i64 0)])
  ⟨is_k, trivial⟩
  ⟨fun f s W b c d h j a => opv rfl rfl (by simp [go_sem]) rfl, trivial⟩ ?_
 intro f1 s1 W1 hB1 g1 hg1
 have fB1 := hB1.f fB0
 have z1 := hB1.below.size
 refine hK1 _ _ ?_
 have k1_0 := kt hg1 0 k0
 have k1_1 := kt hg1 1 k1
 have k1_4 := kt hg1 4 (hB1.is 0)
 refine wp_seq_k fun K2 hK2 => ?_
 refine wp_seq_k fun K3 hK3 => ?_
 refine region_dk 3 [(6, 0), (7, 1), (8, 2)] [[], [0], []] (rel [is (.slice (some ⟨bb, oo, none⟩) (nn) (cc)),
   is (.int .i64 ((nn : Int))),
   is (.int .i64 0)])
  ⟨is_k, is_k, is_k, trivial⟩
  ⟨fun f s W b c d h j a => opv rfl rfl (by simp [go_sem, a.e 0 k1_0]) rfl,
  fun f s W b c d h j a => opv rfl rfl (by simp [go_sem, a.e 6 (c 0 rfl)]) rfl,
  fun f s W b c d h j a => opv rfl rfl (by simp [go_sem]) rfl, trivial⟩ ?_
 intro f2 s2 W2 hB2 g2 hg2
 have fB2 := hB2.f fB1
 have z2 := hB2.below.size
 refine hK3 _ _ ?_
 have k2_0 := kt hg2 0 k1_0
 have k2_1 := kt hg2 1 k1_1
 have k2_4 := kt hg2 4 k1_4
 have k2_7 := kt hg2 7 (hB2.is 1)
 have k2_8 := kt hg2 8 (hB2.is 2)
 refine wp_block ?_
 refine wp_loop_n (fun m_ a_ W_ => ∃ g_ : Nat → Value, a_ = fr 19 g_ ∧ (∃ i : Nat, m_ = nn - i ∧ g_ 0 = .slice (some ⟨bb, oo, none⟩) (nn) (cc) ∧ g_ 1 = .func (.func 75) #[] #[] ∧ g_ 4 = .int .i64 0 ∧ g_ 7 = .int .i64 ((nn : Int)) ∧ g_ 8 = .int .i64 ((i : Int)) ∧ Below w.heap.size w W_ ∧ W2.heap.size ≤ W_.heap.size ∧ (i ≤ nn))) ⟨_, g2, rfl, 0, rfl, k2_0, k2_1, k2_4, k2_7, k2_8.trans (by rfl), fB2, Nat.le_refl _, (by omega)⟩ ?_
 rintro _ _ W_2 ⟨g_2, rfl, i, rfl, k_2_0, k_2_1, k_2_4, k_2_7, k_2_8, fB_2, z_2, lp0⟩
 refine wp_seq_k fun K4 hK4 => ?_
 refine region_dk 1 [(9, 0)] [[]] (rel [is (.bool (decide ((i : Int) < (nn : Int))))])
  ⟨is_k, trivial⟩
  ⟨fun f s W b c d h j a => opv rfl rfl (by simp [go_sem, a.e 8 k_2_8, a.e 7 k_2_7]) rfl, trivial⟩ ?_
 intro f3 s3 W3 hB3 g3 hg3
 have fB3 := hB3.f fB_2
 have z3 := hB3.below.size
 refine hK4 _ _ ?_
 have k3_0 := kt hg3 0 k_2_0
 have k3_1 := kt hg3 1 k_2_1
 have k3_4 := kt hg3 4 k_2_4
 have k3_7 := kt hg3 7 k_2_7
 have k3_8 := kt hg3 8 k_2_8
 have k3_9 := kt hg3 9 (hB3.is 0)
 refine wp_seq_k fun K5 hK5 => ?_
 refine wp_cond_split (t := decide ((i : Int) < (nn : Int))) ((fr_eval rfl).trans k3_9) (fun hc6 => ?_) (fun hc6 => ?_)
 ·
  have hc6' := hc6; try simp only [ba] at hc6'
  have ln : i < nn := by omega
  have lz : (i : Int) < (nn : Int) := by omega
  have li := Nat.not_le.2 ln
  refine wp_skip ?_
  refine hK5 _ _ ?_
  refine wp_seq_k fun K7 hK7 => ?_
  refine wp_block ?_
  refine wp_seq_k fun K8 hK8 => ?_
  refine region_dk 2 [(10, 0), (5, 1)] [[], [0]] (rel [is (.int .i64 ((i : Int))),
   is (.int .i64 ((i : Int)))])
   ⟨is_k, is_k, trivial⟩
   ⟨fun f s W b c d h j a => opv rfl rfl (by simp [go_sem, a.e 8 k3_8]) rfl,
  fun f s W b c d h j a => opv rfl rfl (by simp [go_sem, a.e 10 (c 0 rfl)]) rfl, trivial⟩ ?_
  intro f4 s4 W4 hB4 g4 hg4
  have fB4 := hB4.f fB3
  have z4 := hB4.below.size
  refine hK8 _ _ ?_
  have k4_0 := kt hg4 0 k3_0
  have k4_1 := kt hg4 1 k3_1
  have k4_4 := kt hg4 4 k3_4
  have k4_7 := kt hg4 7 k3_7
  have k4_8 := kt hg4 8 k3_8
  have k4_5 := kt hg4 5 (hB4.is 1)
  refine wp_seq_k fun K9 hK9 => ?_
  refine region_dk 6 [(11, 0), (12, 1), (13, 2), (14, 3), (15, 4), (16, 5)] [[], [], [], [1, 2], [1, 2, 3], [0, 1, 2, 3, 4]] (rel [is (.func (.func 75) #[] #[]),
   is (.slice (some ⟨bb, oo, none⟩) (nn) (cc)),
   is (.int .i64 ((i : Int))),
   is (.pointer (some ⟨bb, oo + i * 4, none⟩)),
   is (.agg #[.int .i64 ((qs i).pitch), .int .i64 ((qs i).draw), .int .i64 ((qs i).h1), .int .i64 ((qs i).h2)]),
   is (.bool false)])
   ⟨is_k, is_k, is_k, is_k, is_k, is_k, trivial⟩
   ⟨fun f s W b c d h j a => opv rfl rfl (by simp [go_sem, a.e 1 k4_1]) rfl,
  fun f s W b c d h j a => opv rfl rfl (by simp [go_sem, a.e 0 k4_0]) rfl,
  fun f s W b c d h j a => opv rfl rfl (by simp [go_sem, a.e 5 k4_5]) rfl,
  fun f s W b c d h j a => opv rfl rfl (by simp [go_sem, a.e 12 (c 1 rfl), a.e 13 (c 2 rfl), li, ln, lz]) rfl,
  fun f s W b c d h j a => by have k := below_trans fB4 b; obtain ⟨e0_, e1_, e2_, e3_⟩ := (hR.below k).2 i ln; exact opv rfl rfl (by simp [go_sem, a.e 14 (c 3 rfl), e0_, e1_, e2_, e3_]) rfl,
  fun f s W b c d h j a => opc rfl rfl (by simp [go_sem, a.e 15 (c 4 rfl), a.e 11 (c 0 rfl)]) (checkF (qs i) (hin i ln) W), trivial⟩ ?_
  intro f5 s5 W5 hB5 g5 hg5
  have fB5 := hB5.f fB4
  have z5 := hB5.below.size
  refine hK9 _ _ ?_
  have k5_0 := kt hg5 0 k4_0
  have k5_1 := kt hg5 1 k4_1
  have k5_4 := kt hg5 4 k4_4
  have k5_7 := kt hg5 7 k4_7
  have k5_8 := kt hg5 8 k4_8
  have k5_5 := kt hg5 5 k4_5
  have k5_16 := kt hg5 16 (hB5.is 5)
  refine wp_cond_false ((fr_eval rfl).trans k5_16) ?_
  refine wp_skip ?_
  refine inBlock_normal ?_
  refine hK7 _ _ ?_
  refine region_dk 2 [(18, 0), (8, 1)] [[], [0]] (rel [is (.int .i64 ((i : Int) + 1)),
   is (.int .i64 ((i : Int) + 1))])
   ⟨is_k, is_k, trivial⟩
   ⟨fun f s W b c d h j a => opv rfl rfl (by simp [go_sem, a.e 8 ((h 1 8 rfl rfl).trans k5_8), IntWalk.i64_in ((i : Int) + 1) (by omega)]) rfl,
  fun f s W b c d h j a => opv rfl rfl (by simp [go_sem, a.e 18 (c 0 rfl)]) rfl, trivial⟩ ?_
  intro f6 s6 W6 hB6 g6 hg6
  have fB6 := hB6.f fB5
  have z6 := hB6.below.size
  refine wpOps_end ?_
  have k6_0 := kt hg6 0 k5_0
  have k6_1 := kt hg6 1 k5_1
  have k6_4 := kt hg6 4 k5_4
  have k6_7 := kt hg6 7 k5_7
  have k6_8 := kt hg6 8 (hB6.is 1)
  refine then_normal ?_
  exact ⟨_, by omega, g6, rfl, i + 1, rfl, k6_0, k6_1, k6_4, k6_7, k6_8.trans (by go_num), fB6, (by omega), (by omega)⟩
 ·
  have hc6' := hc6; try simp only [ba] at hc6'
  refine wp_exit ?_
  refine then_exit ?_
  refine then_exit ?_
  refine inBlock_at ?_
  refine hK2 _ _ ?_
  refine wp_seq_k fun K11 hK11 => ?_
  refine region_dk 1 [(4, 0)] [[]] (rel [is (.int .i64 (-1))])
   ⟨is_k, trivial⟩
   ⟨fun f s W b c d h j a => opv rfl rfl (by simp [go_sem]) rfl, trivial⟩ ?_
  intro f7 s7 W7 hB7 g7 hg7
  have fB7 := hB7.f fB3
  have z7 := hB7.below.size
  refine hK11 _ _ ?_
  have k7_4 := kt hg7 4 (hB7.is 0)
  refine wp_ret ?_
  refine leave_one (N := 19) (v := .int .i64 (-1)) (.inr rfl) Try.results93 rfl k7_4 ?_
  exact ⟨rfl, fB7⟩
set_option maxRecDepth 100000 in
set_option maxHeartbeats 400000 in
theorem contains_checkF (qs : Nat → Fu) (bb oo nn cc : Nat) (w : World) (h8 : nn ≤ 8) (hR : FuR w bb oo nn qs) (hin : ∀ i, i < nn → FuIn (qs i)) :
  Calls Try.prog 74 #[.slice (some ⟨bb, oo, none⟩) (nn) (cc), .func (.func 75) #[] #[]] w (fun e w' => e = .returned (.bool false) ∧ Below w.heap.size w w') := by
 refine calls_fr Try.func74 Try.ntmps74 rfl rfl fun g hg => ?_
 have k0 : g 0 = .slice (some ⟨bb, oo, none⟩) (nn) (cc) := hg 0
 have k1 : g 1 = .func (.func 75) #[] #[] := hg 1
 clear hg
 have fB0 : Below w.heap.size w w := Below.refl _ _
 refine wp_seq_k fun K1 hK1 => ?_
 refine region_dk 1 [(4, 0)] [[]] (rel [is (.bool false)])
  ⟨is_k, trivial⟩
  ⟨fun f s W b c d h j a => opv rfl rfl (by simp [go_sem]) rfl, trivial⟩ ?_
 intro f1 s1 W1 hB1 g1 hg1
 have fB1 := hB1.f fB0
 have z1 := hB1.below.size
 refine hK1 _ _ ?_
 have k1_0 := kt hg1 0 k0
 have k1_1 := kt hg1 1 k1
 have k1_4 := kt hg1 4 (hB1.is 0)
 refine wp_seq_k fun K2 hK2 => ?_
 refine region_dk 5 [(5, 0), (6, 1), (7, 2), (8, 3), (4, 4)] [[], [], [0, 1], [0, 1, 2], [0, 1, 2, 3]] (rel [is (.slice (some ⟨bb, oo, none⟩) (nn) (cc)),
   is (.func (.func 75) #[] #[]),
   is (.int .i64 (-1)),
   is (.bool false),
   is (.bool false)])
  ⟨is_k, is_k, is_k, is_k, is_k, trivial⟩
  ⟨fun f s W b c d h j a => opv rfl rfl (by simp [go_sem, a.e 0 k1_0]) rfl,
  fun f s W b c d h j a => opv rfl rfl (by simp [go_sem, a.e 1 k1_1]) rfl,
  fun f s W b c d h j a => by have k := below_trans fB1 b; exact opc rfl rfl (by simp [go_sem, a.e 5 (c 0 rfl), a.e 6 (c 1 rfl)]) (index_checkF qs bb oo nn cc W h8 (hR.below k) hin),
  fun f s W b c d h j a => opv rfl rfl (by simp [go_sem, a.e 7 (c 2 rfl)]) rfl,
  fun f s W b c d h j a => opv rfl rfl (by simp [go_sem, a.e 8 (c 3 rfl)]) rfl, trivial⟩ ?_
 intro f2 s2 W2 hB2 g2 hg2
 have fB2 := hB2.f fB1
 have z2 := hB2.below.size
 refine hK2 _ _ ?_
 have k2_4 := kt hg2 4 (hB2.is 4)
 refine wp_ret ?_
 refine leave_one (N := 9) (v := .bool false) (.inr rfl) Try.results74 rfl k2_4 ?_
 exact ⟨rfl, fB2⟩
set_option maxRecDepth 100000 in
set_option maxHeartbeats 2000000 in
theorem boCheck_ok (ps : Nat → Pa) (qs : Nat → Fu) (bp oP np cp bq oq nq cq : Nat) (w : World) (hP : PaR w bp oP np ps) (hQ : FuR w bq oq nq qs) (hpi : ∀ i, i < np → PaIn (ps i)) (hqi : ∀ i, i < nq → FuIn (qs i)) (np1 : 1 ≤ np) (np8 : np ≤ 8) (nq1 : 1 ≤ nq) (nq4 : nq ≤ 4) :
  Calls Try.prog 59 #[.agg #[.slice (some ⟨bp, oP, none⟩) (np) (cp), .slice (some ⟨bq, oq, none⟩) (nq) (cq)]] w (fun e w' => e = .returned (.int .i64 0) ∧ Below w.heap.size w w') := by
 have d1 : decide ((8 : Int) < (np : Int)) = false := decide_eq_false (by omega)
 have d2 : decide ((4 : Int) < (nq : Int)) = false := decide_eq_false (by omega)
 have d3 : ((np : Int) == 0) = false := beq_eq_false_iff_ne.2 (by omega)
 have d4 : ((nq : Int) == 0) = false := beq_eq_false_iff_ne.2 (by omega)
 refine calls_fr Try.func59 Try.ntmps59 rfl rfl fun g hg => ?_
 have k0 : g 0 = .agg #[.slice (some ⟨bp, oP, none⟩) (np) (cp), .slice (some ⟨bq, oq, none⟩) (nq) (cq)] := hg 0
 clear hg
 have fB0 : Below w.heap.size w w := Below.refl _ _
 refine wp_seq_k fun K1 hK1 => ?_
 refine region_dk 2 [(1, 0), (2, 1)] [[], []] (rel [bx 0 #[.slice (some ⟨bp, oP, none⟩) (np) (cp), .slice (some ⟨bq, oq, none⟩) (nq) (cq)] 33,
   is (.int .i64 0)])
  ⟨bx_k, is_k, trivial⟩
  ⟨fun f s W c d h j k a => opb rfl rfl (by simp [go_sem, a.e 0 k0]),
  fun f s W c d h j k a => opv rfl rfl (by simp [go_sem]) rfl, trivial⟩ ?_
 intro f1 s1 W1 hB1 g1 hg1
 have fB1 := hB1.f fB0
 have z1 := hB1.below.size
 obtain ⟨r1_0, br1_0⟩ := hB1.is 0
 have lr1_0 := hB1.lr 0 br1_0
 refine hK1 _ _ ?_
 have k1_1 := kt hg1 1 r1_0
 have k1_2 := kt hg1 2 (hB1.is 1)
 refine wp_seq_k fun K2 hK2 => ?_
 refine wp_block ?_
 refine wp_seq_k fun K3 hK3 => ?_
 refine wp_seq_k fun K4 hK4 => ?_
 refine region_dk 5 [(4, 0), (5, 1), (6, 2), (7, 3), (3, 4)] [[], [0], [0, 1], [0, 1, 2], [0, 1, 2, 3]] (rel [is (.pointer (some ⟨(s1 0), 0, none⟩)),
   is (.slice (some ⟨bp, oP, none⟩) (np) (cp)),
   is (.int .i64 ((np : Int))),
   is (.bool (decide (8 < (np : Int)))),
   is (.bool (decide (8 < (np : Int))))])
  ⟨is_k, is_k, is_k, is_k, is_k, trivial⟩
  ⟨fun f s W c d h j k a => opv rfl rfl (by simp [go_sem, a.e 1 k1_1]) rfl,
  fun f s W c d h j k a => opv rfl rfl (by simp [go_sem, a.e 4 (d 0 rfl), cb br1_0 c 0]) rfl,
  fun f s W c d h j k a => opv rfl rfl (by simp [go_sem, a.e 5 (d 1 rfl)]) rfl,
  fun f s W c d h j k a => opv rfl rfl (by simp [go_sem, a.e 6 (d 2 rfl)]) rfl,
  fun f s W c d h j k a => opv rfl rfl (by simp [go_sem, a.e 7 (d 3 rfl)]) rfl, trivial⟩ ?_
 intro f2 s2 W2 hB2 g2 hg2
 have fB2 := hB2.f fB1
 have z2 := hB2.below.size
 have b2_0 := hB2.b br1_0
 refine hK4 _ _ ?_
 have k2_1 := kt hg2 1 k1_1
 have k2_2 := kt hg2 2 k1_2
 have k2_3 := kt hg2 3 (hB2.is 4)
 have hc5 : (fr 28 g2).eval (.tmp 3) = .bool false := ((fr_eval rfl).trans k2_3).trans (by rw [d1])
 refine wp_cond_false (hc5) ?_
 refine region_dk 5 [(8, 0), (9, 1), (10, 2), (11, 3), (3, 4)] [[], [0], [0, 1], [0, 1, 2], [0, 1, 2, 3]] (rel [is (.pointer (some ⟨(s1 0), 1, none⟩)),
   is (.slice (some ⟨bq, oq, none⟩) (nq) (cq)),
   is (.int .i64 ((nq : Int))),
   is (.bool (decide (4 < (nq : Int)))),
   is (.bool (decide (4 < (nq : Int))))])
  ⟨is_k, is_k, is_k, is_k, is_k, trivial⟩
  ⟨fun f s W c d h j k a => opv rfl rfl (by simp [go_sem, a.e 1 k2_1]) rfl,
  fun f s W c d h j k a => opv rfl rfl (by simp [go_sem, a.e 8 (d 0 rfl), cb b2_0 c 1]) rfl,
  fun f s W c d h j k a => opv rfl rfl (by simp [go_sem, a.e 9 (d 1 rfl)]) rfl,
  fun f s W c d h j k a => opv rfl rfl (by simp [go_sem, a.e 10 (d 2 rfl)]) rfl,
  fun f s W c d h j k a => opv rfl rfl (by simp [go_sem, a.e 11 (d 3 rfl)]) rfl, trivial⟩ ?_
 intro f3 s3 W3 hB3 g3 hg3
 have fB3 := hB3.f fB2
 have z3 := hB3.below.size
 have b3_0 := hB3.b b2_0
 refine hK3 _ _ ?_
 have k3_1 := kt hg3 1 k2_1
 have k3_2 := kt hg3 2 k2_2
 have k3_3 := kt hg3 3 (hB3.is 4)
 have hc6 : (fr 28 g3).eval (.tmp 3) = .bool false := ((fr_eval rfl).trans k3_3).trans (by rw [d2])
 refine wp_cond_false (hc6) ?_
 refine wp_seq_k fun K7 hK7 => ?_
 refine wp_seq_k fun K8 hK8 => ?_
 refine region_dk 5 [(13, 0), (14, 1), (15, 2), (16, 3), (12, 4)] [[], [0], [0, 1], [0, 1, 2], [0, 1, 2, 3]] (rel [is (.pointer (some ⟨(s1 0), 0, none⟩)),
   is (.slice (some ⟨bp, oP, none⟩) (np) (cp)),
   is (.int .i64 ((np : Int))),
   is (.bool ((np : Int) == 0)),
   is (.bool ((np : Int) == 0))])
  ⟨is_k, is_k, is_k, is_k, is_k, trivial⟩
  ⟨fun f s W c d h j k a => opv rfl rfl (by simp [go_sem, a.e 1 k3_1]) rfl,
  fun f s W c d h j k a => opv rfl rfl (by simp [go_sem, a.e 13 (d 0 rfl), cb b3_0 c 0]) rfl,
  fun f s W c d h j k a => opv rfl rfl (by simp [go_sem, a.e 14 (d 1 rfl)]) rfl,
  fun f s W c d h j k a => opv rfl rfl (by simp [go_sem, a.e 15 (d 2 rfl)]) rfl,
  fun f s W c d h j k a => opv rfl rfl (by simp [go_sem, a.e 16 (d 3 rfl)]) rfl, trivial⟩ ?_
 intro f4 s4 W4 hB4 g4 hg4
 have fB4 := hB4.f fB3
 have z4 := hB4.below.size
 have b4_0 := hB4.b b3_0
 refine hK8 _ _ ?_
 have k4_1 := kt hg4 1 k3_1
 have k4_2 := kt hg4 2 k3_2
 have k4_12 := kt hg4 12 (hB4.is 4)
 have hc9 : (fr 28 g4).eval (.tmp 12) = .bool false := ((fr_eval rfl).trans k4_12).trans (by rw [d3])
 refine wp_cond_false (hc9) ?_
 refine region_dk 5 [(17, 0), (18, 1), (19, 2), (20, 3), (12, 4)] [[], [0], [0, 1], [0, 1, 2], [0, 1, 2, 3]] (rel [is (.pointer (some ⟨(s1 0), 1, none⟩)),
   is (.slice (some ⟨bq, oq, none⟩) (nq) (cq)),
   is (.int .i64 ((nq : Int))),
   is (.bool ((nq : Int) == 0)),
   is (.bool ((nq : Int) == 0))])
  ⟨is_k, is_k, is_k, is_k, is_k, trivial⟩
  ⟨fun f s W c d h j k a => opv rfl rfl (by simp [go_sem, a.e 1 k4_1]) rfl,
  fun f s W c d h j k a => opv rfl rfl (by simp [go_sem, a.e 17 (d 0 rfl), cb b4_0 c 1]) rfl,
  fun f s W c d h j k a => opv rfl rfl (by simp [go_sem, a.e 18 (d 1 rfl)]) rfl,
  fun f s W c d h j k a => opv rfl rfl (by simp [go_sem, a.e 19 (d 2 rfl)]) rfl,
  fun f s W c d h j k a => opv rfl rfl (by simp [go_sem, a.e 20 (d 3 rfl)]) rfl, trivial⟩ ?_
 intro f5 s5 W5 hB5 g5 hg5
 have fB5 := hB5.f fB4
 have z5 := hB5.below.size
 have b5_0 := hB5.b b4_0
 refine hK7 _ _ ?_
 have k5_1 := kt hg5 1 k4_1
 have k5_2 := kt hg5 2 k4_2
 have k5_12 := kt hg5 12 (hB5.is 4)
 have hc10 : (fr 28 g5).eval (.tmp 12) = .bool false := ((fr_eval rfl).trans k5_12).trans (by rw [d4])
 refine wp_cond_false (hc10) ?_
 refine wp_seq_k fun K11 hK11 => ?_
 refine wp_seq_k fun K12 hK12 => ?_
 refine region_dk 4 [(22, 0), (23, 1), (24, 2), (21, 3)] [[], [0], [0, 1], [0, 1, 2]] (rel [is (.pointer (some ⟨(s1 0), 0, none⟩)),
   is (.slice (some ⟨bp, oP, none⟩) (np) (cp)),
   is (.bool false),
   is (.bool false)])
  ⟨is_k, is_k, is_k, is_k, trivial⟩
  ⟨fun f s W c d h j k a => opv rfl rfl (by simp [go_sem, a.e 1 k5_1]) rfl,
  fun f s W c d h j k a => opv rfl rfl (by simp [go_sem, a.e 22 (d 0 rfl), cb b5_0 c 0]) rfl,
  fun f s W c d h j k a => by have l := below_trans fB5 c; exact opc rfl rfl (by simp [go_sem, a.e 23 (d 1 rfl)]) (contains_checkP ps bp oP np cp W np8 (hP.below l) hpi),
  fun f s W c d h j k a => opv rfl rfl (by simp [go_sem, a.e 24 (d 2 rfl)]) rfl, trivial⟩ ?_
 intro f6 s6 W6 hB6 g6 hg6
 have fB6 := hB6.f fB5
 have z6 := hB6.below.size
 have b6_0 := hB6.b b5_0
 refine hK12 _ _ ?_
 have k6_1 := kt hg6 1 k5_1
 have k6_2 := kt hg6 2 k5_2
 have k6_21 := kt hg6 21 (hB6.is 3)
 refine wp_cond_false ((fr_eval rfl).trans k6_21) ?_
 refine region_dk 4 [(25, 0), (26, 1), (27, 2), (21, 3)] [[], [0], [0, 1], [0, 1, 2]] (rel [is (.pointer (some ⟨(s1 0), 1, none⟩)),
   is (.slice (some ⟨bq, oq, none⟩) (nq) (cq)),
   is (.bool false),
   is (.bool false)])
  ⟨is_k, is_k, is_k, is_k, trivial⟩
  ⟨fun f s W c d h j k a => opv rfl rfl (by simp [go_sem, a.e 1 k6_1]) rfl,
  fun f s W c d h j k a => opv rfl rfl (by simp [go_sem, a.e 25 (d 0 rfl), cb b6_0 c 1]) rfl,
  fun f s W c d h j k a => by have l := below_trans fB6 c; exact opc rfl rfl (by simp [go_sem, a.e 26 (d 1 rfl)]) (contains_checkF qs bq oq nq cq W (by omega) (hQ.below l) hqi),
  fun f s W c d h j k a => opv rfl rfl (by simp [go_sem, a.e 27 (d 2 rfl)]) rfl, trivial⟩ ?_
 intro f7 s7 W7 hB7 g7 hg7
 have fB7 := hB7.f fB6
 have z7 := hB7.below.size
 have b7_0 := hB7.b b6_0
 refine hK11 _ _ ?_
 have k7_2 := kt hg7 2 k6_2
 have k7_21 := kt hg7 21 (hB7.is 3)
 refine wp_cond_false ((fr_eval rfl).trans k7_21) ?_
 refine wp_skip ?_
 refine inBlock_normal ?_
 refine hK2 _ _ ?_
 refine wp_seq_k fun K15 hK15 => ?_
 refine region_dk 1 [(2, 0)] [[]] (rel [is (.int .i64 0)])
  ⟨is_k, trivial⟩
  ⟨fun f s W c d h j k a => opv rfl rfl (by simp [go_sem]) rfl, trivial⟩ ?_
 intro f8 s8 W8 hB8 g8 hg8
 have fB8 := hB8.f fB7
 have z8 := hB8.below.size
 have b8_0 := hB8.b b7_0
 refine hK15 _ _ ?_
 have k8_2 := kt hg8 2 (hB8.is 0)
 refine wp_ret ?_
 refine leave_one (N := 28) (v := .int .i64 0) (.inr rfl) Try.results59 rfl k8_2 ?_
 exact ⟨rfl, fB8⟩
end Go.Proofs.Ytiocklgakklkpaa
