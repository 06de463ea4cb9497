/- Part of the proof: what the claim leans on. -/
import Derived.Test.YtcgccflcjejlhaaDAD
set_option linter.unusedSimpArgs false
set_option linter.unusedVariables false
namespace Go.Proofs.Ytcgccflcjejlhaa
open Go.RowKit
theorem dp_within_yes {lo hi : Int} {xs : List Int} (h : ∀ x ∈ xs, lo ≤ x ∧ x ≤ hi) : within lo hi xs = true := by
  unfold within
  simp only [Bool.not_eq_true', List.any_eq_false]
  intro x hx
  have := h x hx
  simp; omega
/-- A moisture after some hours in a room. -/
def towF (up dn from_ room h : Int) : Int := if from_ < room then min room (from_ + up * h) else max room (from_ - dn * h)
structure MoIn (lo hi : Int) : Prop where
  h : 0 ≤ lo ∧ lo ≤ hi ∧ hi ≤ 300
theorem towF_bd {up dn from_ room h : Int} (hu : 0 ≤ up ∧ up ≤ 50) (hd : 0 ≤ dn ∧ dn ≤ 50) (hf : 0 ≤ from_ ∧ from_ ≤ 300) (hr : 0 ≤ room ∧ room ≤ 300) (hh : 0 ≤ h ∧ h ≤ 501) : (0 ≤ up * h ∧ up * h ≤ 25050) ∧ (0 ≤ dn * h ∧ dn * h ≤ 25050) ∧ 0 ≤ towF up dn from_ room h ∧ towF up dn from_ room h ≤ 300 := by
  have h1 := tr_mul hu hh
  have h2 := tr_mul hd hh
  refine ⟨by omega, by omega, ?_⟩
  unfold towF; split <;> omega
/-- Spans that lie one behind another. -/
def SpR (W : World) (b o n : Nat) (ss : Nat → Int × Int) : Prop := b < W.heap.size ∧ ∀ i, i < n → W.cell? ⟨b, o + i * 2, none⟩ = some (.int .i64 (ss i).1) ∧ W.cell? ⟨b, o + i * 2 + 1, none⟩ = some (.int .i64 (ss i).2)
theorem SpR.below {W W' : World} {b o n : Nat} {ss : Nat → Int × Int} (h : SpR W b o n ss) (hb : Below W.heap.size W W') : SpR W' b o n ss :=
  ⟨Nat.lt_of_lt_of_le h.1 hb.size, fun i hi => ⟨(hb.cell (p := ⟨b, o + i * 2, none⟩) h.1).trans (h.2 i hi).1, (hb.cell (p := ⟨b, o + i * 2 + 1, none⟩) h.1).trans (h.2 i hi).2⟩⟩
/-- Stays that lie one behind another. -/
structure Ds where
  lo : Int
  hi : Int
  hr : Int
structure DsIn (d : Ds) : Prop where
  m : 0 ≤ d.lo ∧ d.lo ≤ d.hi ∧ d.hi ≤ 300
  h : 0 ≤ d.hr ∧ d.hr ≤ 500
def DsR (W : World) (b o n : Nat) (ds : Nat → Ds) : Prop := b < W.heap.size ∧ ∀ i, i < n → W.cell? ⟨b, o + i * 3, none⟩ = some (.int .i64 (ds i).lo) ∧ W.cell? ⟨b, o + i * 3 + 1, none⟩ = some (.int .i64 (ds i).hi) ∧ W.cell? ⟨b, o + i * 3 + 2, none⟩ = some (.int .i64 (ds i).hr)
theorem DsR.below {W W' : World} {b o n : Nat} {ds : Nat → Ds} (h : DsR W b o n ds) (hb : Below W.heap.size W W') : DsR W' b o n ds :=
  ⟨Nat.lt_of_lt_of_le h.1 hb.size, fun i hi => ⟨(hb.cell (p := ⟨b, o + i * 3, none⟩) h.1).trans (h.2 i hi).1, (hb.cell (p := ⟨b, o + i * 3 + 1, none⟩) h.1).trans (h.2 i hi).2.1, (hb.cell (p := ⟨b, o + i * 3 + 2, none⟩) h.1).trans (h.2 i hi).2.2⟩⟩
set_option maxHeartbeats 400000 in
theorem dp_within1_any (n lo hi : Int) (a b : Addr) (w : World) (ha : w.cell? a = some (.int .i64 lo)) (hb : w.cell? b = some (.int .i64 hi)) :
    Calls Try.prog 105 #[.int .i64 n, .pointer (some a), .pointer (some b)] w fun e w' => e = .returned (.bool (decide (n < lo) || decide (hi < n))) ∧ Below w.heap.size w w' := by
  by_cases h : n < lo
  · go_enter Try.func105, Try.ntmps105
    go_wp2
    go_ret
    exact ⟨by simp [h], Below.refl _ _⟩
  · go_enter Try.func105, Try.ntmps105
    go_wp2
    go_ret
    exact ⟨by simp; omega, Below.refl _ _⟩
theorem dp_pred_within (lo hi : Int) (a b : Addr) (xs : List Int) (w : World) (ha : w.cell? a = some (.int .i64 lo)) (hb : w.cell? b = some (.int .i64 hi)) (la : a.block < w.heap.size) (lb : b.block < w.heap.size) :
    Pred 105 #[.pointer (some a), .pointer (some b)] (Value.int .i64) (fun n => decide (n < lo) || decide (hi < n)) xs w :=
  fun x _ w1 h1 => dp_within1_any x lo hi a b w1 ((h1.cell la).trans ha) ((h1.cell lb).trans hb)
set_option maxHeartbeats 400000 in
theorem dp_within_any (lo hi : Int) (a : Option Addr) (n c : Nat) (xs : List Int) (w : World) (h : Ii w a n c xs) :
    Calls Try.prog 52 #[.int .i64 lo, .int .i64 hi, .slice a n c] w fun e w' => e = .returned (.bool (within lo hi xs)) ∧ Below w.heap.size w w' := by
  have H := Lib.hid h
  clear h
  have hb2 : Below w.heap.size w ((w.alloc (.cells #[.int .i64 lo] 3)).alloc (.cells #[.int .i64 hi] 3)) := ((Below.refl _ _).alloc (Nat.le_refl _) _).alloc (by simp) _
  have C := Lib.hid (containsFunc_ints 105 Try.call105 _ (fun n => decide (n < lo) || decide (hi < n)) a n c xs _ (H.out.below hb2 (Nat.le_refl _))
    (dp_pred_within lo hi ⟨w.heap.size, 0, none⟩ ⟨w.heap.size + 1, 0, none⟩ xs _ (by simp) (by simp) (by simp; omega) (by simp)))
  have Hb := Lib.hid hb2
  clear hb2
  go_enter Try.func52, Try.ntmps52
  go_wp2_with ((with_reducible refine (C.out).mono ?_); rintro e w2 ⟨rfl, hb2⟩)
  go_ret
  exact ⟨rfl, Hb.out.trans (hb2.mono (by simp; omega))⟩
set_option maxRecDepth 100000 in
set_option maxHeartbeats 400000 in
theorem isRule_yes (up dn : Int) (w : World) (gu : 0 ≤ up ∧ up ≤ 50) (gd : 0 ≤ dn ∧ dn ≤ 50) :
  Calls Try.prog 53 #[.agg #[.int .i64 up, .int .i64 dn]] w (fun e w' => e = .returned (.bool true) ∧ Below w.heap.size w w') := by
 refine calls_fr Try.func53 Try.ntmps53 rfl rfl fun g hg => ?_
 have k0 : g 0 = .agg #[.int .i64 up, .int .i64 dn] := hg 0
 clear hg
 have fB0 : Below w.heap.size w w := Below.refl _ _
 refine wp_seq_k fun K1 hK1 => ?_
 refine region_dk 2 [(1, 0), (2, 1)] [[], []] (rel [bx 0 #[.int .i64 up, .int .i64 dn] 41,
   is (.bool false)])
  ⟨bx_k, is_k, trivial⟩
  ⟨fun f s W c d i j k a => opb rfl rfl (by simp [go_sem, a.e 0 k0]),
  fun f s W c d i j k a => opv rfl rfl (by simp [go_sem]) rfl, trivial⟩ ?_
 intro f1 s1 W1 hB1 g1 hg1
 have fB1 := hB1.f fB0
 have z1 := hB1.below.size
 obtain ⟨r1_0, br1_0⟩ := hB1.is 0
 have lr1_0 := hB1.lr 0 br1_0
 refine hK1 _ _ ?_
 have k1_1 := kt hg1 1 r1_0
 have k1_2 := kt hg1 2 (hB1.is 1)
 refine wp_seq_k fun K2 hK2 => ?_
 refine region_dk 7 [(3, 0), (4, 1), (5, 2), (6, 3), (7, 4), (8, 5), (2, 6)] [[], [0], [], [2], [0, 1, 2, 3], [0, 1, 2, 3, 4], [0, 1, 2, 3, 4, 5]] (rel [is (.pointer (some ⟨(s1 0), 0, none⟩)),
   is (.int .i64 up),
   is (.pointer (some ⟨(s1 0), 1, none⟩)),
   is (.int .i64 dn),
   row 4 2 #[.int .i64 up, .int .i64 dn] 3,
   is (.bool true),
   is (.bool true)])
  ⟨is_k, is_k, is_k, is_k, row_k, is_k, is_k, trivial⟩
  ⟨fun f s W c d i j k a => opv rfl rfl (by simp [go_sem, a.e 1 k1_1]) rfl,
  fun f s W c d i j k a => opv rfl rfl (by simp [go_sem, a.e 3 (d 0 rfl), cb br1_0 c 0]) rfl,
  fun f s W c d i j k a => opv rfl rfl (by simp [go_sem, a.e 1 k1_1]) rfl,
  fun f s W c d i j k a => opv rfl rfl (by simp [go_sem, a.e 5 (d 2 rfl), cb br1_0 c 1]) rfl,
  fun f s W c d i j k a => opr rfl rfl (by simp [go_sem, a.e 4 (d 1 rfl), a.e 6 (d 3 rfl)]),
  fun f s W c d i j k a => opDo_call (args := #[.int .i64 0, .int .i64 50, .slice (some ⟨(s 4), 0, none⟩) (2) (2)]) rfl rfl (by simp [go_sem, a.e 7 (d 4 rfl).1]) (dp_within_any (0) (50) _ 2 2 [up, dn] W (ii_block (xs := [up, dn]) (d 4 rfl).2 rfl rfl)) ((fun e W' h => by have h1 := h.1; rw [dp_within_yes (by simp; omega)] at h1; exact ⟨_, h1, h.2, rfl⟩)),
  fun f s W c d i j k a => opv rfl rfl (by simp [go_sem, a.e 8 (d 5 rfl)]) rfl, trivial⟩ ?_
 intro f2 s2 W2 hB2 g2 hg2
 have fB2 := hB2.f fB1
 have z2 := hB2.below.size
 have b2_0 := hB2.b br1_0
 obtain ⟨r2_4, br2_4⟩ := hB2.is 4
 have lr2_4 := hB2.lr 4 br2_4
 refine hK2 _ _ ?_
 have k2_2 := kt hg2 2 (hB2.is 6)
 refine wp_ret ?_
 refine leave_one (N := 9) (v := .bool true) (.inr rfl) Try.results53 rfl k2_2 ?_
 exact ⟨rfl, fB2⟩
set_option maxRecDepth 100000 in
set_option maxHeartbeats 400000 in
theorem isMoist_yes (lo hi : Int) (w : World) (hm : MoIn lo hi) :
  Calls Try.prog 103 #[.agg #[.int .i64 lo, .int .i64 hi]] w (fun e w' => e = .returned (.bool true) ∧ Below w.heap.size w w') := by
 have hm_ := hm.h
 have hlh_ : decide (lo ≤ hi) = true := decide_eq_true hm_.2.1
 refine calls_fr Try.func103 Try.ntmps103 rfl rfl fun g hg => ?_
 have k0 : g 0 = .agg #[.int .i64 lo, .int .i64 hi] := hg 0
 clear hg
 have fB0 : Below w.heap.size w w := Below.refl _ _
 refine wp_seq_k fun K1 hK1 => ?_
 refine region_dk 2 [(1, 0), (2, 1)] [[], []] (rel [bx 0 #[.int .i64 lo, .int .i64 hi] 103,
   is (.bool false)])
  ⟨bx_k, is_k, trivial⟩
  ⟨fun f s W i j k l m a => opb rfl rfl (by simp [go_sem, a.e 0 k0]),
  fun f s W i j k l m a => opv rfl rfl (by simp [go_sem]) rfl, trivial⟩ ?_
 intro f1 s1 W1 hB1 g1 hg1
 have fB1 := hB1.f fB0
 have z1 := hB1.below.size
 obtain ⟨r1_0, br1_0⟩ := hB1.is 0
 have lr1_0 := hB1.lr 0 br1_0
 refine hK1 _ _ ?_
 have k1_1 := kt hg1 1 r1_0
 have k1_2 := kt hg1 2 (hB1.is 1)
 refine wp_seq_k fun K2 hK2 => ?_
 refine region_dk 18 [(3, 0), (4, 1), (5, 2), (6, 3), (7, 4), (8, 5), (9, 6), (10, 7), (11, 8), (12, 9), (13, 10), (14, 11), (15, 12), (16, 13), (17, 14), (18, 15), (19, 16), (2, 17)] [[], [0], [0, 1], [], [3], [3, 4], [0, 1, 2, 3, 4, 5], [0, 1, 2, 3, 4, 5, 6], [0, 1, 2, 3, 4, 5, 6, 7], [0, 1, 2, 3, 4, 5, 6, 7, 8], [0, 1, 2, 3, 4, 5, 6, 7, 8, 9], [0, 1, 2, 3, 4, 5, 6, 7, 8, 9, 10], [0, 1, 2, 3, 4, 5, 6, 7, 8], [0, 1, 2, 3, 4, 5, 6, 7, 8, 12], [0, 1, 2, 3, 4, 5, 6, 7, 8, 12, 13], [0, 1, 2, 3, 4, 5, 6, 7, 8, 9, 10, 11, 12, 13, 14], [0, 1, 2, 3, 4, 5, 6, 7, 8, 9, 10, 11, 12, 13, 14, 15], [0, 1, 2, 3, 4, 5, 6, 7, 8, 9, 10, 11, 12, 13, 14, 15, 16]] (rel [is (.pointer (some ⟨(s1 0), 0, none⟩)),
   is (.pointer (some ⟨(s1 0), 0, none⟩)),
   is (.int .i64 lo),
   is (.pointer (some ⟨(s1 0), 0, none⟩)),
   is (.pointer (some ⟨(s1 0), 1, none⟩)),
   is (.int .i64 hi),
   row 6 2 #[.int .i64 lo, .int .i64 hi] 3,
   is (.bool true),
   is (.bool true),
   is (.pointer (some ⟨(s1 0), 0, none⟩)),
   is (.pointer (some ⟨(s1 0), 0, none⟩)),
   is (.int .i64 lo),
   is (.pointer (some ⟨(s1 0), 0, none⟩)),
   is (.pointer (some ⟨(s1 0), 1, none⟩)),
   is (.int .i64 hi),
   is (.bool true),
   is (.bool true),
   is (.bool true)])
  ⟨is_k, is_k, is_k, is_k, is_k, is_k, row_k, is_k, is_k, is_k, is_k, is_k, is_k, is_k, is_k, is_k, is_k, is_k, trivial⟩
  ⟨fun f s W i j k l m a => opv rfl rfl (by simp [go_sem, a.e 1 k1_1]) rfl,
  fun f s W i j k l m a => opv rfl rfl (by simp [go_sem, a.e 3 (j 0 rfl)]) rfl,
  fun f s W i j k l m a => opv rfl rfl (by simp [go_sem, a.e 4 (j 1 rfl), cb br1_0 i 0]) rfl,
  fun f s W i j k l m a => opv rfl rfl (by simp [go_sem, a.e 1 k1_1]) rfl,
  fun f s W i j k l m a => opv rfl rfl (by simp [go_sem, a.e 6 (j 3 rfl)]) rfl,
  fun f s W i j k l m a => opv rfl rfl (by simp [go_sem, a.e 7 (j 4 rfl), cb br1_0 i 1]) rfl,
  fun f s W i j k l m a => opr rfl rfl (by simp [go_sem, a.e 5 (j 2 rfl), a.e 8 (j 5 rfl)]),
  fun f s W i j k l m a => opDo_call (args := #[.int .i64 0, .int .i64 300, .slice (some ⟨(s 6), 0, none⟩) (2) (2)]) rfl rfl (by simp [go_sem, a.e 9 (j 6 rfl).1]) (dp_within_any (0) (300) _ 2 2 [lo, hi] W (ii_block (xs := [lo, hi]) (j 6 rfl).2 rfl rfl)) ((fun e W' h => by have h1 := h.1; rw [dp_within_yes (by simp; omega)] at h1; exact ⟨_, h1, h.2, rfl⟩)),
  fun f s W i j k l m a => opv rfl rfl (by simp [go_sem, a.e 10 (j 7 rfl)]) rfl,
  fun f s W i j k l m a => osure rfl rfl (a.says (d := 11) rfl rfl (j 8 rfl)) (gv (by simp [go_sem, a.e 1 k1_1]) rfl),
  fun f s W i j k l m a => osure rfl rfl (a.says (d := 11) rfl rfl (j 8 rfl)) (gv (by simp [go_sem, a.e 12 (j 9 rfl)]) rfl),
  fun f s W i j k l m a => osure rfl rfl (a.says (d := 11) rfl rfl (j 8 rfl)) (gv (by simp [go_sem, a.e 13 (j 10 rfl), cb br1_0 i 0]) rfl),
  fun f s W i j k l m a => osure rfl rfl (a.says (d := 11) rfl rfl (j 8 rfl)) (gv (by simp [go_sem, a.e 1 k1_1]) rfl),
  fun f s W i j k l m a => osure rfl rfl (a.says (d := 11) rfl rfl (j 8 rfl)) (gv (by simp [go_sem, a.e 15 (j 12 rfl)]) rfl),
  fun f s W i j k l m a => osure rfl rfl (a.says (d := 11) rfl rfl (j 8 rfl)) (gv (by simp [go_sem, a.e 16 (j 13 rfl), cb br1_0 i 1]) rfl),
  fun f s W i j k l m a => osure rfl rfl (a.says (d := 11) rfl rfl (j 8 rfl)) (gv (by simp [go_sem, a.e 14 (j 11 rfl), a.e 17 (j 14 rfl), hlh_]) rfl),
  fun f s W i j k l m a => opk (c := true) rfl rfl (fun h => absurd h (by decide)) (fun _ => by simp [go_sem, a.e 11 (j 8 rfl), a.e 18 (j 15 rfl)]),
  fun f s W i j k l m a => opv rfl rfl (by simp [go_sem, a.e 19 (j 16 rfl)]) rfl, trivial⟩ ?_
 intro f2 s2 W2 hB2 g2 hg2
 have fB2 := hB2.f fB1
 have z2 := hB2.below.size
 have b2_0 := hB2.b br1_0
 obtain ⟨r2_6, br2_6⟩ := hB2.is 6
 have lr2_6 := hB2.lr 6 br2_6
 refine hK2 _ _ ?_
 have k2_2 := kt hg2 2 (hB2.is 17)
 refine wp_ret ?_
 refine leave_one (N := 20) (v := .bool true) (.inr rfl) Try.results103 rfl k2_2 ?_
 exact ⟨rfl, fB2⟩
set_option maxRecDepth 100000 in
set_option maxHeartbeats 400000 in
theorem moist_fn (lo hi : Int) (w : World) (hm : MoIn lo hi) :
  Calls Try.prog 102 #[.agg #[.int .i64 lo, .int .i64 hi]] w (fun e w' => e = .returned (.bool false) ∧ Below w.heap.size w w') := by
 refine calls_fr Try.func102 Try.ntmps102 rfl rfl fun g hg => ?_
 have k0 : g 0 = .agg #[.int .i64 lo, .int .i64 hi] := hg 0
 clear hg
 have fB0 : Below w.heap.size w w := Below.refl _ _
 refine wp_seq_k fun K1 hK1 => ?_
 refine region_dk 2 [(1, 0), (2, 1)] [[], []] (rel [bx 0 #[.int .i64 lo, .int .i64 hi] 43,
   is (.bool false)])
  ⟨bx_k, is_k, trivial⟩
  ⟨fun f s W c d h i j a => opb rfl rfl (by simp [go_sem, a.e 0 k0]),
  fun f s W c d h i j a => opv rfl rfl (by simp [go_sem]) rfl, trivial⟩ ?_
 intro f1 s1 W1 hB1 g1 hg1
 have fB1 := hB1.f fB0
 have z1 := hB1.below.size
 obtain ⟨r1_0, br1_0⟩ := hB1.is 0
 have lr1_0 := hB1.lr 0 br1_0
 refine hK1 _ _ ?_
 have k1_1 := kt hg1 1 r1_0
 have k1_2 := kt hg1 2 (hB1.is 1)
 refine wp_seq_k fun K2 hK2 => ?_
 refine region_dk 5 [(3, 0), (4, 1), (5, 2), (6, 3), (2, 4)] [[], [0], [0, 1], [0, 1, 2], [0, 1, 2, 3]] (rel [is (.agg #[.int .i64 lo, .int .i64 hi]),
   is (.agg #[.int .i64 lo, .int .i64 hi]),
   is (.bool true),
   is (.bool false),
   is (.bool false)])
  ⟨is_k, is_k, is_k, is_k, is_k, trivial⟩
  ⟨fun f s W c d h i j a => opv rfl rfl (by simp [go_sem, a.e 1 k1_1, cb br1_0 c 0, cb br1_0 c 1]) rfl,
  fun f s W c d h i j a => opv rfl rfl (by simp [go_sem, a.e 3 (d 0 rfl)]) rfl,
  fun f s W c d h i j a => opc rfl rfl (by simp [go_sem, a.e 4 (d 1 rfl)]) (isMoist_yes lo hi W hm),
  fun f s W c d h i j a => opv rfl rfl (by simp [go_sem, a.e 5 (d 2 rfl)]) rfl,
  fun f s W c d h i j a => opv rfl rfl (by simp [go_sem, a.e 6 (d 3 rfl)]) rfl, trivial⟩ ?_
 intro f2 s2 W2 hB2 g2 hg2
 have fB2 := hB2.f fB1
 have z2 := hB2.below.size
 have b2_0 := hB2.b br1_0
 refine hK2 _ _ ?_
 have k2_2 := kt hg2 2 (hB2.is 4)
 refine wp_ret ?_
 refine leave_one (N := 7) (v := .bool false) (.inr rfl) Try.results102 rfl k2_2 ?_
 exact ⟨rfl, fB2⟩
set_option maxRecDepth 100000 in
set_option maxHeartbeats 400000 in
theorem moist_index (ss : Nat → Int × Int) (bo oo n c : Nat) (w : World) (hO : SpR w bo oo n ss) (ho : ∀ i, i < n → MoIn (ss i).1 (ss i).2) (gn : n ≤ 100) :
  Calls Try.prog 138 #[.slice (some ⟨bo, oo, none⟩) (n) (c), .func (.func 102) #[] #[]] w (fun e w' => e = .returned (.int .i64 (-1)) ∧ Below w.heap.size w w') := by
 refine calls_fr Try.func138 Try.ntmps138 rfl rfl fun g hg => ?_
 have k0 : g 0 = .slice (some ⟨bo, oo, none⟩) (n) (c) := hg 0
 have k1 : g 1 = .func (.func 102) #[] #[] := hg 1
 clear hg
 have fB0 : Below w.heap.size w w := Below.refl _ _
 refine wp_seq_k fun K1 hK1 => ?_
 refine region_dk 1 [(4, 0)] [[]] (rel [is (.int .i64 0)])
  ⟨is_k, trivial⟩
  ⟨fun f s W b d h j l a => opv rfl rfl (by simp [go_sem]) rfl, trivial⟩ ?_
 intro f1 s1 W1 hB1 g1 hg1
 have fB1 := hB1.f fB0
 have z1 := hB1.below.size
 refine hK1 _ _ ?_
 have k1_0 := kt hg1 0 k0
 have k1_1 := kt hg1 1 k1
 have k1_4 := kt hg1 4 (hB1.is 0)
 refine wp_seq_k fun K2 hK2 => ?_
 refine wp_seq_k fun K3 hK3 => ?_
 refine region_dk 3 [(6, 0), (7, 1), (8, 2)] [[], [0], []] (rel [is (.slice (some ⟨bo, oo, none⟩) (n) (c)),
   is (.int .i64 ((n : Int))),
   is (.int .i64 0)])
  ⟨is_k, is_k, is_k, trivial⟩
  ⟨fun f s W b d h j l a => opv rfl rfl (by simp [go_sem, a.e 0 k1_0]) rfl,
  fun f s W b d h j l a => opv rfl rfl (by simp [go_sem, a.e 6 (d 0 rfl)]) rfl,
  fun f s W b d h j l a => opv rfl rfl (by simp [go_sem]) rfl, trivial⟩ ?_
 intro f2 s2 W2 hB2 g2 hg2
 have fB2 := hB2.f fB1
 have z2 := hB2.below.size
 refine hK3 _ _ ?_
 have k2_0 := kt hg2 0 k1_0
 have k2_1 := kt hg2 1 k1_1
 have k2_4 := kt hg2 4 k1_4
 have k2_7 := kt hg2 7 (hB2.is 1)
 have k2_8 := kt hg2 8 (hB2.is 2)
 refine wp_block ?_
 refine wp_loop_n (fun m_ a_ W_ => ∃ g_ : Nat → Value, a_ = fr 19 g_ ∧ (∃ k : Nat, m_ = n - k ∧ g_ 0 = .slice (some ⟨bo, oo, none⟩) (n) (c) ∧ g_ 1 = .func (.func 102) #[] #[] ∧ g_ 4 = .int .i64 0 ∧ g_ 7 = .int .i64 ((n : Int)) ∧ g_ 8 = .int .i64 ((k : Int)) ∧ Below w.heap.size w W_ ∧ W2.heap.size ≤ W_.heap.size ∧ (k ≤ n))) ⟨_, g2, rfl, 0, rfl, k2_0, k2_1, k2_4, k2_7, k2_8.trans (by rfl), fB2, Nat.le_refl _, (by omega)⟩ ?_
 rintro _ _ W_1 ⟨g_1, rfl, k, rfl, k_1_0, k_1_1, k_1_4, k_1_7, k_1_8, fB_1, z_1, lk0⟩
 refine wp_seq_k fun K4 hK4 => ?_
 refine region_dk 1 [(9, 0)] [[]] (rel [is (.bool (decide ((k : Int) < (n : Int))))])
  ⟨is_k, trivial⟩
  ⟨fun f s W b d h j l a => opv rfl rfl (by simp [go_sem, a.e 8 k_1_8, a.e 7 k_1_7]) rfl, trivial⟩ ?_
 intro f3 s3 W3 hB3 g3 hg3
 have fB3 := hB3.f fB_1
 have z3 := hB3.below.size
 refine hK4 _ _ ?_
 have k3_0 := kt hg3 0 k_1_0
 have k3_1 := kt hg3 1 k_1_1
 have k3_4 := kt hg3 4 k_1_4
 have k3_7 := kt hg3 7 k_1_7
 have k3_8 := kt hg3 8 k_1_8
 have k3_9 := kt hg3 9 (hB3.is 0)
 refine wp_seq_k fun K5 hK5 => ?_
 refine wp_cond_split (t := decide ((k : Int) < (n : Int))) ((fr_eval rfl).trans k3_9) (fun hc6 => ?_) (fun hc6 => ?_)
 ·
  have hc6' := hc6; try simp only [ba] at hc6'
  have hkn : k < n := by omega
  refine wp_skip ?_
  refine hK5 _ _ ?_
  refine wp_seq_k fun K7 hK7 => ?_
  refine wp_block ?_
  refine wp_seq_k fun K8 hK8 => ?_
  refine region_dk 2 [(10, 0), (5, 1)] [[], [0]] (rel [is (.int .i64 ((k : Int))),
   is (.int .i64 ((k : Int)))])
   ⟨is_k, is_k, trivial⟩
   ⟨fun f s W b d h j l a => opv rfl rfl (by simp [go_sem, a.e 8 k3_8]) rfl,
  fun f s W b d h j l a => opv rfl rfl (by simp [go_sem, a.e 10 (d 0 rfl)]) rfl, trivial⟩ ?_
  intro f4 s4 W4 hB4 g4 hg4
  have fB4 := hB4.f fB3
  have z4 := hB4.below.size
  refine hK8 _ _ ?_
  have k4_0 := kt hg4 0 k3_0
  have k4_1 := kt hg4 1 k3_1
  have k4_4 := kt hg4 4 k3_4
  have k4_7 := kt hg4 7 k3_7
  have k4_8 := kt hg4 8 k3_8
  have k4_5 := kt hg4 5 (hB4.is 1)
  refine wp_seq_k fun K9 hK9 => ?_
  refine region_dk 6 [(11, 0), (12, 1), (13, 2), (14, 3), (15, 4), (16, 5)] [[], [], [], [1, 2], [1, 2, 3], [0, 1, 2, 3, 4]] (rel [is (.func (.func 102) #[] #[]),
   is (.slice (some ⟨bo, oo, none⟩) (n) (c)),
   is (.int .i64 ((k : Int))),
   is (.pointer (some ⟨bo, oo + k * 2, none⟩)),
   is (.agg #[.int .i64 ((ss k).1), .int .i64 ((ss k).2)]),
   is (.bool false)])
   ⟨is_k, is_k, is_k, is_k, is_k, is_k, trivial⟩
   ⟨fun f s W b d h j l a => opv rfl rfl (by simp [go_sem, a.e 1 k4_1]) rfl,
  fun f s W b d h j l a => opv rfl rfl (by simp [go_sem, a.e 0 k4_0]) rfl,
  fun f s W b d h j l a => opv rfl rfl (by simp [go_sem, a.e 5 k4_5]) rfl,
  fun f s W b d h j l a => by have li_ := Nat.not_le.2 (show k < n by omega); have li2_ : (k : Int) < (n : Int) := (by omega); exact opv rfl rfl (by simp [go_sem, a.e 12 (d 1 rfl), a.e 13 (d 2 rfl), li_, li2_]) rfl,
  fun f s W b d h j l a => by have m := below_trans fB4 b; have cu_ := (hO.below m).2 k (by omega); have cu0_ : W.cell? ⟨bo, oo + k * 2, none⟩ = some (.int .i64 (ss k).1) := cu_.1; have cu1_ : W.cell? ⟨bo, oo + k * 2 + 1, none⟩ = some (.int .i64 (ss k).2) := cu_.2; exact opv rfl rfl (by simp [go_sem, a.e 14 (d 3 rfl), cu0_, cu1_]) rfl,
  fun f s W b d h j l a => opc rfl rfl (by simp [go_sem, a.e 15 (d 4 rfl), a.e 11 (d 0 rfl)]) (moist_fn (ss k).1 (ss k).2 W (ho k (by omega))), trivial⟩ ?_
  intro f5 s5 W5 hB5 g5 hg5
  have fB5 := hB5.f fB4
  have z5 := hB5.below.size
  refine hK9 _ _ ?_
  have k5_0 := kt hg5 0 k4_0
  have k5_1 := kt hg5 1 k4_1
  have k5_4 := kt hg5 4 k4_4
  have k5_7 := kt hg5 7 k4_7
  have k5_8 := kt hg5 8 k4_8
  have k5_5 := kt hg5 5 k4_5
  have k5_16 := kt hg5 16 (hB5.is 5)
  refine wp_cond_false ((fr_eval rfl).trans k5_16) ?_
  refine wp_skip ?_
  refine inBlock_normal ?_
  refine hK7 _ _ ?_
  refine region_dk 2 [(18, 0), (8, 1)] [[], [0]] (rel [is (.int .i64 ((k : Int) + 1)),
   is (.int .i64 ((k : Int) + 1))])
   ⟨is_k, is_k, trivial⟩
   ⟨fun f s W b d h j l a => opv rfl rfl (by simp [go_sem, a.e 8 ((j 1 8 rfl rfl).trans k5_8), IntWalk.i64_in ((k : Int) + 1) (by omega)]) rfl,
  fun f s W b d h j l a => opv rfl rfl (by simp [go_sem, a.e 18 (d 0 rfl)]) rfl, trivial⟩ ?_
  intro f6 s6 W6 hB6 g6 hg6
  have fB6 := hB6.f fB5
  have z6 := hB6.below.size
  refine wpOps_end ?_
  have k6_0 := kt hg6 0 k5_0
  have k6_1 := kt hg6 1 k5_1
  have k6_4 := kt hg6 4 k5_4
  have k6_7 := kt hg6 7 k5_7
  have k6_8 := kt hg6 8 (hB6.is 1)
  refine then_normal ?_
  exact ⟨_, by omega, g6, rfl, k + 1, rfl, k6_0, k6_1, k6_4, k6_7, k6_8.trans (by go_num), fB6, (by omega), (by omega)⟩
 ·
  have hc6' := hc6; try simp only [ba] at hc6'
  refine wp_exit ?_
  refine then_exit ?_
  refine then_exit ?_
  refine inBlock_at ?_
  refine hK2 _ _ ?_
  refine wp_seq_k fun K11 hK11 => ?_
  refine region_dk 1 [(4, 0)] [[]] (rel [is (.int .i64 (-1))])
   ⟨is_k, trivial⟩
   ⟨fun f s W b d h j l a => opv rfl rfl (by simp [go_sem]) rfl, trivial⟩ ?_
  intro f7 s7 W7 hB7 g7 hg7
  have fB7 := hB7.f fB3
  have z7 := hB7.below.size
  refine hK11 _ _ ?_
  have k7_4 := kt hg7 4 (hB7.is 0)
  refine wp_ret ?_
  refine leave_one (N := 19) (v := .int .i64 (-1)) (.inr rfl) Try.results138 rfl k7_4 ?_
  exact ⟨rfl, fB7⟩
set_option maxRecDepth 100000 in
set_option maxHeartbeats 400000 in
theorem moist_contains (ss : Nat → Int × Int) (bo oo n c : Nat) (w : World) (hO : SpR w bo oo n ss) (ho : ∀ i, i < n → MoIn (ss i).1 (ss i).2) (gn : n ≤ 100) :
  Calls Try.prog 101 #[.slice (some ⟨bo, oo, none⟩) (n) (c), .func (.func 102) #[] #[]] w (fun e w' => e = .returned (.bool false) ∧ Below w.heap.size w w') := by
 refine calls_fr Try.func101 Try.ntmps101 rfl rfl fun g hg => ?_
 have k0 : g 0 = .slice (some ⟨bo, oo, none⟩) (n) (c) := hg 0
 have k1 : g 1 = .func (.func 102) #[] #[] := hg 1
 clear hg
 have fB0 : Below w.heap.size w w := Below.refl _ _
 refine wp_seq_k fun K1 hK1 => ?_
 refine region_dk 1 [(4, 0)] [[]] (rel [is (.bool false)])
  ⟨is_k, trivial⟩
  ⟨fun f s W b d h j k a => opv rfl rfl (by simp [go_sem]) rfl, trivial⟩ ?_
 intro f1 s1 W1 hB1 g1 hg1
 have fB1 := hB1.f fB0
 have z1 := hB1.below.size
 refine hK1 _ _ ?_
 have k1_0 := kt hg1 0 k0
 have k1_1 := kt hg1 1 k1
 have k1_4 := kt hg1 4 (hB1.is 0)
 refine wp_seq_k fun K2 hK2 => ?_
 refine region_dk 5 [(5, 0), (6, 1), (7, 2), (8, 3), (4, 4)] [[], [], [0, 1], [0, 1, 2], [0, 1, 2, 3]] (rel [is (.slice (some ⟨bo, oo, none⟩) (n) (c)),
   is (.func (.func 102) #[] #[]),
   is (.int .i64 (-1)),
   is (.bool false),
   is (.bool false)])
  ⟨is_k, is_k, is_k, is_k, is_k, trivial⟩
  ⟨fun f s W b d h j k a => opv rfl rfl (by simp [go_sem, a.e 0 k1_0]) rfl,
  fun f s W b d h j k a => opv rfl rfl (by simp [go_sem, a.e 1 k1_1]) rfl,
  fun f s W b d h j k a => by have l := below_trans fB1 b; exact opc rfl rfl (by simp [go_sem, a.e 5 (d 0 rfl), a.e 6 (d 1 rfl)]) (moist_index ss bo oo n c W (hO.below l) ho gn),
  fun f s W b d h j k a => opv rfl rfl (by simp [go_sem, a.e 7 (d 2 rfl)]) rfl,
  fun f s W b d h j k a => opv rfl rfl (by simp [go_sem, a.e 8 (d 3 rfl)]) rfl, trivial⟩ ?_
 intro f2 s2 W2 hB2 g2 hg2
 have fB2 := hB2.f fB1
 have z2 := hB2.below.size
 refine hK2 _ _ ?_
 have k2_4 := kt hg2 4 (hB2.is 4)
 refine wp_ret ?_
 refine leave_one (N := 9) (v := .bool false) (.inr rfl) Try.results101 rfl k2_4 ?_
 exact ⟨rfl, fB2⟩
set_option maxRecDepth 100000 in
set_option maxHeartbeats 400000 in
theorem moist_yes (ss : Nat → Int × Int) (bo oo n c : Nat) (w : World) (hO : SpR w bo oo n ss) (ho : ∀ i, i < n → MoIn (ss i).1 (ss i).2) (gn : n ≤ 100) :
  Calls Try.prog 51 #[.slice (some ⟨bo, oo, none⟩) (n) (c)] w (fun e w' => e = .returned (.bool true) ∧ Below w.heap.size w w') := by
 refine calls_fr Try.func51 Try.ntmps51 rfl rfl fun g hg => ?_
 have k0 : g 0 = .slice (some ⟨bo, oo, none⟩) (n) (c) := hg 0
 clear hg
 have fB0 : Below w.heap.size w w := Below.refl _ _
 refine wp_seq_k fun K1 hK1 => ?_
 refine region_dk 1 [(2, 0)] [[]] (rel [is (.bool false)])
  ⟨is_k, trivial⟩
  ⟨fun f s W b d h j k a => opv rfl rfl (by simp [go_sem]) rfl, trivial⟩ ?_
 intro f1 s1 W1 hB1 g1 hg1
 have fB1 := hB1.f fB0
 have z1 := hB1.below.size
 refine hK1 _ _ ?_
 have k1_0 := kt hg1 0 k0
 have k1_2 := kt hg1 2 (hB1.is 0)
 refine wp_seq_k fun K2 hK2 => ?_
 refine region_dk 4 [(3, 0), (4, 1), (5, 2), (2, 3)] [[], [0], [0, 1], [0, 1, 2]] (rel [is (.slice (some ⟨bo, oo, none⟩) (n) (c)),
   is (.bool false),
   is (.bool true),
   is (.bool true)])
  ⟨is_k, is_k, is_k, is_k, trivial⟩
  ⟨fun f s W b d h j k a => opv rfl rfl (by simp [go_sem, a.e 0 k1_0]) rfl,
  fun f s W b d h j k a => by have l := below_trans fB1 b; exact opc rfl rfl (by simp [go_sem, a.e 3 (d 0 rfl)]) (moist_contains ss bo oo n c W (hO.below l) ho gn),
  fun f s W b d h j k a => opv rfl rfl (by simp [go_sem, a.e 4 (d 1 rfl)]) rfl,
  fun f s W b d h j k a => opv rfl rfl (by simp [go_sem, a.e 5 (d 2 rfl)]) rfl, trivial⟩ ?_
 intro f2 s2 W2 hB2 g2 hg2
 have fB2 := hB2.f fB1
 have z2 := hB2.below.size
 refine hK2 _ _ ?_
 have k2_2 := kt hg2 2 (hB2.is 3)
 refine wp_ret ?_
 refine leave_one (N := 6) (v := .bool true) (.inr rfl) Try.results51 rfl k2_2 ?_
 exact ⟨rfl, fB2⟩
theorem spR1 {W : World} {b : Nat} {x y : Int} {T : TypeId} (h : W.heap[b]? = some (.cells #[.int .i64 x, .int .i64 y] T (0, 0))) : SpR W b 0 1 (fun _ => (x, y)) :=
  ⟨lt_of_blk h, fun i hi => by
    obtain rfl : i = 0 := by omega
    exact ⟨(Joins.cell_of_block h 0).trans rfl, (Joins.cell_of_block h 1).trans rfl⟩⟩
theorem spR3 {W : World} {b : Nat} {x y x1 y1 x2 y2 : Int} {T : TypeId} (h : W.heap[b]? = some (.cells #[.int .i64 x, .int .i64 y, .int .i64 x1, .int .i64 y1, .int .i64 x2, .int .i64 y2] T (0, 0))) : SpR W b 0 3 (fun i => if i = 0 then (x, y) else if i = 1 then (x1, y1) else (x2, y2)) :=
  ⟨lt_of_blk h, fun i hi => by
    match i, hi with
    | 0, _ => exact ⟨(Joins.cell_of_block h 0).trans rfl, (Joins.cell_of_block h 1).trans rfl⟩
    | 1, _ => exact ⟨(Joins.cell_of_block h 2).trans rfl, (Joins.cell_of_block h 3).trans rfl⟩
    | 2, _ => exact ⟨(Joins.cell_of_block h 4).trans rfl, (Joins.cell_of_block h 5).trans rfl⟩⟩
set_option maxRecDepth 100000 in
set_option maxHeartbeats 400000 in
theorem dcheck1 (d : Ds) (w : World) (hd_ : DsIn d) :
  Calls Try.prog 50 #[.agg #[.int .i64 d.lo, .int .i64 d.hi, .int .i64 d.hr]] w (fun e w' => e = .returned (.bool false) ∧ Below w.heap.size w w') := by
 have h1_ := hd_.m
 have h2_ := hd_.h
 refine calls_fr Try.func50 Try.ntmps50 rfl rfl fun g hg => ?_
 have k0 : g 0 = .agg #[.int .i64 d.lo, .int .i64 d.hi, .int .i64 d.hr] := hg 0
 clear hg
 have fB0 : Below w.heap.size w w := Below.refl _ _
 refine wp_seq_k fun K1 hK1 => ?_
 refine region_dk 2 [(1, 0), (2, 1)] [[], []] (rel [bx 0 #[.int .i64 d.lo, .int .i64 d.hi, .int .i64 d.hr] 51,
   is (.bool false)])
  ⟨bx_k, is_k, trivial⟩
  ⟨fun f s W i j k l n a => opb rfl rfl (by simp [go_sem, a.e 0 k0]),
  fun f s W i j k l n a => opv rfl rfl (by simp [go_sem]) rfl, trivial⟩ ?_
 intro f1 s1 W1 hB1 g1 hg1
 have fB1 := hB1.f fB0
 have z1 := hB1.below.size
 obtain ⟨r1_0, br1_0⟩ := hB1.is 0
 have lr1_0 := hB1.lr 0 br1_0
 refine hK1 _ _ ?_
 have k1_1 := kt hg1 1 r1_0
 have k1_2 := kt hg1 2 (hB1.is 1)
 refine wp_seq_k fun K2 hK2 => ?_
 refine region_dk 13 [(3, 0), (4, 1), (5, 2), (6, 3), (7, 4), (8, 5), (9, 6), (10, 7), (11, 8), (12, 9), (13, 10), (14, 11), (2, 12)] [[], [0], [0, 1], [0, 1, 2], [0, 1, 2, 3], [0, 1, 2, 3, 4], [0, 1, 2, 3, 4, 5], [0, 1, 2, 3, 4, 5, 6], [0, 1, 2, 3, 4, 5, 6, 7], [0, 1, 2, 3, 4, 5, 6, 7, 8], [0, 1, 2, 3, 4, 5, 6, 7, 8, 9], [0, 1, 2, 3, 4, 5, 6, 7, 8, 9, 10], [0, 1, 2, 3, 4, 5, 6, 7, 8, 9, 10, 11]] (rel [is (.pointer (some ⟨(s1 0), 0, none⟩)),
   is (.agg #[.int .i64 d.lo, .int .i64 d.hi]),
   row 2 1 #[.int .i64 d.lo, .int .i64 d.hi] 43,
   is (.bool true),
   is (.bool false),
   is (.bool false),
   is (.pointer (some ⟨(s1 0), 2, none⟩)),
   is (.int .i64 d.hr),
   row 8 1 #[.int .i64 d.hr] 3,
   is (.bool true),
   is (.bool false),
   is (.bool false),
   is (.bool false)])
  ⟨is_k, is_k, row_k, is_k, is_k, is_k, is_k, is_k, row_k, is_k, is_k, is_k, is_k, trivial⟩
  ⟨fun f s W i j k l n a => opv rfl rfl (by simp [go_sem, a.e 1 k1_1]) rfl,
  fun f s W i j k l n a => opv rfl rfl (by simp [go_sem, a.e 3 (j 0 rfl), cb br1_0 i 0, cb br1_0 i 1]) rfl,
  fun f s W i j k l n a => opr rfl rfl (by simp [go_sem, a.e 4 (j 1 rfl)]),
  fun f s W i j k l n a => opc (args := #[.slice (some ⟨(s 2), 0, none⟩) (1) (1)]) rfl rfl (by simp [go_sem, a.e 5 (j 2 rfl).1]) (moist_yes (fun _ => (d.lo, d.hi)) (s 2) 0 1 1 W (spR1 (j 2 rfl).2) (fun _ _ => ⟨by omega⟩) (by decide)),
  fun f s W i j k l n a => opv rfl rfl (by simp [go_sem, a.e 6 (j 3 rfl)]) rfl,
  fun f s W i j k l n a => opv rfl rfl (by simp [go_sem, a.e 7 (j 4 rfl)]) rfl,
  fun f s W i j k l n a => osure rfl rfl (a.says (d := 8) rfl rfl (j 5 rfl)) (gv (by simp [go_sem, a.e 1 k1_1]) rfl),
  fun f s W i j k l n a => osure rfl rfl (a.says (d := 8) rfl rfl (j 5 rfl)) (gv (by simp [go_sem, a.e 9 (j 6 rfl), cb br1_0 i 2]) rfl),
  fun f s W i j k l n a => osure rfl rfl (a.says (d := 8) rfl rfl (j 5 rfl)) (gr (by simp [go_sem, a.e 10 (j 7 rfl)])),
  fun f s W i j k l n a => osure rfl rfl (a.says (d := 8) rfl rfl (j 5 rfl)) (wp_called (args := #[.int .i64 0, .int .i64 500, .slice (some ⟨(s 8), 0, none⟩) (1) (1)]) (by simp [go_sem, a.e 11 (j 8 rfl).1]) (dp_within_any (0) (500) _ 1 1 [d.hr] W (ii_block (xs := [d.hr]) (j 8 rfl).2 rfl rfl)) ((fun e W' h => by have h1 := h.1; rw [dp_within_yes (by simp; omega)] at h1; exact ⟨_, h1, h.2, rfl⟩))),
  fun f s W i j k l n a => osure rfl rfl (a.says (d := 8) rfl rfl (j 5 rfl)) (gv (by simp [go_sem, a.e 12 (j 9 rfl)]) rfl),
  fun f s W i j k l n a => opk (c := false) rfl rfl (fun _ => by simp [go_sem, a.e 8 (j 5 rfl), a.e 13 (j 10 rfl)]) (fun h => absurd h (by decide)),
  fun f s W i j k l n a => opv rfl rfl (by simp [go_sem, a.e 14 (j 11 rfl)]) rfl, trivial⟩ ?_
 intro f2 s2 W2 hB2 g2 hg2
 have fB2 := hB2.f fB1
 have z2 := hB2.below.size
 have b2_0 := hB2.b br1_0
 obtain ⟨r2_2, br2_2⟩ := hB2.is 2
 have lr2_2 := hB2.lr 2 br2_2
 obtain ⟨r2_8, br2_8⟩ := hB2.is 8
 have lr2_8 := hB2.lr 8 br2_8
 have ne2_2_8 := hB2.nb 2 8
 refine hK2 _ _ ?_
 have k2_2 := kt hg2 2 (hB2.is 12)
 refine wp_ret ?_
 refine leave_one (N := 15) (v := .bool false) (.inr rfl) Try.results50 rfl k2_2 ?_
 exact ⟨rfl, fB2⟩
set_option maxRecDepth 100000 in
set_option maxHeartbeats 400000 in
theorem dcheck_index (ds : Nat → Ds) (bo oo n c : Nat) (w : World) (hO : DsR w bo oo n ds) (ho : ∀ i, i < n → DsIn (ds i)) (gn : n ≤ 10) :
  Calls Try.prog 106 #[.slice (some ⟨bo, oo, none⟩) (n) (c), .func (.func 50) #[] #[]] w (fun e w' => e = .returned (.int .i64 (-1)) ∧ Below w.heap.size w w') := by
 refine calls_fr Try.func106 Try.ntmps106 rfl rfl fun g hg => ?_
 have k0 : g 0 = .slice (some ⟨bo, oo, none⟩) (n) (c) := hg 0
 have k1 : g 1 = .func (.func 50) #[] #[] := hg 1
 clear hg
 have fB0 : Below w.heap.size w w := Below.refl _ _
 refine wp_seq_k fun K1 hK1 => ?_
 refine region_dk 1 [(4, 0)] [[]] (rel [is (.int .i64 0)])
  ⟨is_k, trivial⟩
  ⟨fun f s W b d h j l a => opv rfl rfl (by simp [go_sem]) rfl, trivial⟩ ?_
 intro f1 s1 W1 hB1 g1 hg1
 have fB1 := hB1.f fB0
 have z1 := hB1.below.size
 refine hK1 _ _ ?_
 have k1_0 := kt hg1 0 k0
 have k1_1 := kt hg1 1 k1
 have k1_4 := kt hg1 4 (hB1.is 0)
 refine wp_seq_k fun K2 hK2 => ?_
 refine wp_seq_k fun K3 hK3 => ?_
 refine region_dk 3 [(6, 0), (7, 1), (8, 2)] [[], [0], []] (rel [is (.slice (some ⟨bo, oo, none⟩) (n) (c)),
   is (.int .i64 ((n : Int))),
   is (.int .i64 0)])
  ⟨is_k, is_k, is_k, trivial⟩
  ⟨fun f s W b d h j l a => opv rfl rfl (by simp [go_sem, a.e 0 k1_0]) rfl,
  fun f s W b d h j l a => opv rfl rfl (by simp [go_sem, a.e 6 (d 0 rfl)]) rfl,
  fun f s W b d h j l a => opv rfl rfl (by simp [go_sem]) rfl, trivial⟩ ?_
 intro f2 s2 W2 hB2 g2 hg2
 have fB2 := hB2.f fB1
 have z2 := hB2.below.size
 refine hK3 _ _ ?_
 have k2_0 := kt hg2 0 k1_0
 have k2_1 := kt hg2 1 k1_1
 have k2_4 := kt hg2 4 k1_4
 have k2_7 := kt hg2 7 (hB2.is 1)
 have k2_8 := kt hg2 8 (hB2.is 2)
 refine wp_block ?_
 refine wp_loop_n (fun m_ a_ W_ => ∃ g_ : Nat → Value, a_ = fr 19 g_ ∧ (∃ k : Nat, m_ = n - k ∧ g_ 0 = .slice (some ⟨bo, oo, none⟩) (n) (c) ∧ g_ 1 = .func (.func 50) #[] #[] ∧ g_ 4 = .int .i64 0 ∧ g_ 7 = .int .i64 ((n : Int)) ∧ g_ 8 = .int .i64 ((k : Int)) ∧ Below w.heap.size w W_ ∧ W2.heap.size ≤ W_.heap.size ∧ (k ≤ n))) ⟨_, g2, rfl, 0, rfl, k2_0, k2_1, k2_4, k2_7, k2_8.trans (by rfl), fB2, Nat.le_refl _, (by omega)⟩ ?_
 rintro _ _ W_2 ⟨g_2, rfl, k, rfl, k_2_0, k_2_1, k_2_4, k_2_7, k_2_8, fB_2, z_2, lk0⟩
 refine wp_seq_k fun K4 hK4 => ?_
 refine region_dk 1 [(9, 0)] [[]] (rel [is (.bool (decide ((k : Int) < (n : Int))))])
  ⟨is_k, trivial⟩
  ⟨fun f s W b d h j l a => opv rfl rfl (by simp [go_sem, a.e 8 k_2_8, a.e 7 k_2_7]) rfl, trivial⟩ ?_
 intro f3 s3 W3 hB3 g3 hg3
 have fB3 := hB3.f fB_2
 have z3 := hB3.below.size
 refine hK4 _ _ ?_
 have k3_0 := kt hg3 0 k_2_0
 have k3_1 := kt hg3 1 k_2_1
 have k3_4 := kt hg3 4 k_2_4
 have k3_7 := kt hg3 7 k_2_7
 have k3_8 := kt hg3 8 k_2_8
 have k3_9 := kt hg3 9 (hB3.is 0)
 refine wp_seq_k fun K5 hK5 => ?_
 refine wp_cond_split (t := decide ((k : Int) < (n : Int))) ((fr_eval rfl).trans k3_9) (fun hc6 => ?_) (fun hc6 => ?_)
 ·
  have hc6' := hc6; try simp only [ba] at hc6'
  have hkn : k < n := by omega
  refine wp_skip ?_
  refine hK5 _ _ ?_
  refine wp_seq_k fun K7 hK7 => ?_
  refine wp_block ?_
  refine wp_seq_k fun K8 hK8 => ?_
  refine region_dk 2 [(10, 0), (5, 1)] [[], [0]] (rel [is (.int .i64 ((k : Int))),
   is (.int .i64 ((k : Int)))])
   ⟨is_k, is_k, trivial⟩
   ⟨fun f s W b d h j l a => opv rfl rfl (by simp [go_sem, a.e 8 k3_8]) rfl,
  fun f s W b d h j l a => opv rfl rfl (by simp [go_sem, a.e 10 (d 0 rfl)]) rfl, trivial⟩ ?_
  intro f4 s4 W4 hB4 g4 hg4
  have fB4 := hB4.f fB3
  have z4 := hB4.below.size
  refine hK8 _ _ ?_
  have k4_0 := kt hg4 0 k3_0
  have k4_1 := kt hg4 1 k3_1
  have k4_4 := kt hg4 4 k3_4
  have k4_7 := kt hg4 7 k3_7
  have k4_8 := kt hg4 8 k3_8
  have k4_5 := kt hg4 5 (hB4.is 1)
  refine wp_seq_k fun K9 hK9 => ?_
  refine region_dk 6 [(11, 0), (12, 1), (13, 2), (14, 3), (15, 4), (16, 5)] [[], [], [], [1, 2], [1, 2, 3], [0, 1, 2, 3, 4]] (rel [is (.func (.func 50) #[] #[]),
   is (.slice (some ⟨bo, oo, none⟩) (n) (c)),
   is (.int .i64 ((k : Int))),
   is (.pointer (some ⟨bo, oo + k * 3, none⟩)),
   is (.agg #[.int .i64 ((ds k).lo), .int .i64 ((ds k).hi), .int .i64 ((ds k).hr)]),
   is (.bool false)])
   ⟨is_k, is_k, is_k, is_k, is_k, is_k, trivial⟩
   ⟨fun f s W b d h j l a => opv rfl rfl (by simp [go_sem, a.e 1 k4_1]) rfl,
  fun f s W b d h j l a => opv rfl rfl (by simp [go_sem, a.e 0 k4_0]) rfl,
  fun f s W b d h j l a => opv rfl rfl (by simp [go_sem, a.e 5 k4_5]) rfl,
  fun f s W b d h j l a => by have li_ := Nat.not_le.2 (show k < n by omega); have li2_ : (k : Int) < (n : Int) := (by omega); exact opv rfl rfl (by simp [go_sem, a.e 12 (d 1 rfl), a.e 13 (d 2 rfl), li_, li2_]) rfl,
  fun f s W b d h j l a => by have m := below_trans fB4 b; have cu_ := (hO.below m).2 k (by omega); have cu0_ : W.cell? ⟨bo, oo + k * 3, none⟩ = some (.int .i64 (ds k).lo) := cu_.1; have cu1_ : W.cell? ⟨bo, oo + k * 3 + 1, none⟩ = some (.int .i64 (ds k).hi) := cu_.2.1; have cu2_ : W.cell? ⟨bo, oo + k * 3 + 2, none⟩ = some (.int .i64 (ds k).hr) := cu_.2.2; exact opv rfl rfl (by simp [go_sem, a.e 14 (d 3 rfl), cu0_, cu1_, cu2_]) rfl,
  fun f s W b d h j l a => opc rfl rfl (by simp [go_sem, a.e 15 (d 4 rfl), a.e 11 (d 0 rfl)]) (dcheck1 (ds k) W (ho k (by omega))), trivial⟩ ?_
  intro f5 s5 W5 hB5 g5 hg5
  have fB5 := hB5.f fB4
  have z5 := hB5.below.size
  refine hK9 _ _ ?_
  have k5_0 := kt hg5 0 k4_0
  have k5_1 := kt hg5 1 k4_1
  have k5_4 := kt hg5 4 k4_4
  have k5_7 := kt hg5 7 k4_7
  have k5_8 := kt hg5 8 k4_8
  have k5_5 := kt hg5 5 k4_5
  have k5_16 := kt hg5 16 (hB5.is 5)
  refine wp_cond_false ((fr_eval rfl).trans k5_16) ?_
  refine wp_skip ?_
  refine inBlock_normal ?_
  refine hK7 _ _ ?_
  refine region_dk 2 [(18, 0), (8, 1)] [[], [0]] (rel [is (.int .i64 ((k : Int) + 1)),
   is (.int .i64 ((k : Int) + 1))])
   ⟨is_k, is_k, trivial⟩
   ⟨fun f s W b d h j l a => opv rfl rfl (by simp [go_sem, a.e 8 ((j 1 8 rfl rfl).trans k5_8), IntWalk.i64_in ((k : Int) + 1) (by omega)]) rfl,
  fun f s W b d h j l a => opv rfl rfl (by simp [go_sem, a.e 18 (d 0 rfl)]) rfl, trivial⟩ ?_
  intro f6 s6 W6 hB6 g6 hg6
  have fB6 := hB6.f fB5
  have z6 := hB6.below.size
  refine wpOps_end ?_
  have k6_0 := kt hg6 0 k5_0
  have k6_1 := kt hg6 1 k5_1
  have k6_4 := kt hg6 4 k5_4
  have k6_7 := kt hg6 7 k5_7
  have k6_8 := kt hg6 8 (hB6.is 1)
  refine then_normal ?_
  exact ⟨_, by omega, g6, rfl, k + 1, rfl, k6_0, k6_1, k6_4, k6_7, k6_8.trans (by go_num), fB6, (by omega), (by omega)⟩
 ·
  have hc6' := hc6; try simp only [ba] at hc6'
  refine wp_exit ?_
  refine then_exit ?_
  refine then_exit ?_
  refine inBlock_at ?_
  refine hK2 _ _ ?_
  refine wp_seq_k fun K11 hK11 => ?_
  refine region_dk 1 [(4, 0)] [[]] (rel [is (.int .i64 (-1))])
   ⟨is_k, trivial⟩
   ⟨fun f s W b d h j l a => opv rfl rfl (by simp [go_sem]) rfl, trivial⟩ ?_
  intro f7 s7 W7 hB7 g7 hg7
  have fB7 := hB7.f fB3
  have z7 := hB7.below.size
  refine hK11 _ _ ?_
  have k7_4 := kt hg7 4 (hB7.is 0)
  refine wp_ret ?_
  refine leave_one (N := 19) (v := .int .i64 (-1)) (.inr rfl) Try.results106 rfl k7_4 ?_
  exact ⟨rfl, fB7⟩
set_option maxRecDepth 100000 in
set_option maxHeartbeats 400000 in
theorem dcheck_contains (ds : Nat → Ds) (bo oo n c : Nat) (w : World) (hO : DsR w bo oo n ds) (ho : ∀ i, i < n → DsIn (ds i)) (gn : n ≤ 10) :
  Calls Try.prog 54 #[.slice (some ⟨bo, oo, none⟩) (n) (c), .func (.func 50) #[] #[]] w (fun e w' => e = .returned (.bool false) ∧ Below w.heap.size w w') := by
 refine calls_fr Try.func54 Try.ntmps54 rfl rfl fun g hg => ?_
 have k0 : g 0 = .slice (some ⟨bo, oo, none⟩) (n) (c) := hg 0
 have k1 : g 1 = .func (.func 50) #[] #[] := hg 1
 clear hg
 have fB0 : Below w.heap.size w w := Below.refl _ _
 refine wp_seq_k fun K1 hK1 => ?_
 refine region_dk 1 [(4, 0)] [[]] (rel [is (.bool false)])
  ⟨is_k, trivial⟩
  ⟨fun f s W b d h j k a => opv rfl rfl (by simp [go_sem]) rfl, trivial⟩ ?_
 intro f1 s1 W1 hB1 g1 hg1
 have fB1 := hB1.f fB0
 have z1 := hB1.below.size
 refine hK1 _ _ ?_
 have k1_0 := kt hg1 0 k0
 have k1_1 := kt hg1 1 k1
 have k1_4 := kt hg1 4 (hB1.is 0)
 refine wp_seq_k fun K2 hK2 => ?_
 refine region_dk 5 [(5, 0), (6, 1), (7, 2), (8, 3), (4, 4)] [[], [], [0, 1], [0, 1, 2], [0, 1, 2, 3]] (rel [is (.slice (some ⟨bo, oo, none⟩) (n) (c)),
   is (.func (.func 50) #[] #[]),
   is (.int .i64 (-1)),
   is (.bool false),
   is (.bool false)])
  ⟨is_k, is_k, is_k, is_k, is_k, trivial⟩
  ⟨fun f s W b d h j k a => opv rfl rfl (by simp [go_sem, a.e 0 k1_0]) rfl,
  fun f s W b d h j k a => opv rfl rfl (by simp [go_sem, a.e 1 k1_1]) rfl,
  fun f s W b d h j k a => by have l := below_trans fB1 b; exact opc rfl rfl (by simp [go_sem, a.e 5 (d 0 rfl), a.e 6 (d 1 rfl)]) (dcheck_index ds bo oo n c W (hO.below l) ho gn),
  fun f s W b d h j k a => opv rfl rfl (by simp [go_sem, a.e 7 (d 2 rfl)]) rfl,
  fun f s W b d h j k a => opv rfl rfl (by simp [go_sem, a.e 8 (d 3 rfl)]) rfl, trivial⟩ ?_
 intro f2 s2 W2 hB2 g2 hg2
 have fB2 := hB2.f fB1
 have z2 := hB2.below.size
 refine hK2 _ _ ?_
 have k2_4 := kt hg2 4 (hB2.is 4)
 refine wp_ret ?_
 refine leave_one (N := 9) (v := .bool false) (.inr rfl) Try.results54 rfl k2_4 ?_
 exact ⟨rfl, fB2⟩
set_option maxRecDepth 100000 in
set_option maxHeartbeats 4000000 in
theorem dcheck_yes (up dn lo hi : Int) (ds : Nat → Ds) (bo oo n c : Nat) (w : World) (hO : DsR w bo oo n ds) (ho : ∀ i, i < n → DsIn (ds i)) (gn : n ≤ 10) (gu : 0 ≤ up ∧ up ≤ 50) (gd : 0 ≤ dn ∧ dn ≤ 50) (hm : MoIn lo hi) :
  Calls Try.prog 26 #[.agg #[.int .i64 up, .int .i64 dn], .agg #[.int .i64 lo, .int .i64 hi], .slice (some ⟨bo, oo, none⟩) (n) (c)] w (fun e w' => e = .returned (.int .i64 0) ∧ Below w.heap.size w w') := by
 have hm_ := hm.h
 have hn_ : decide (10 < (n : Int)) = false := decide_eq_false (by omega)
 refine calls_fr Try.func26 Try.ntmps26 rfl rfl fun g hg => ?_
 have k0 : g 0 = .agg #[.int .i64 up, .int .i64 dn] := hg 0
 have k1 : g 1 = .agg #[.int .i64 lo, .int .i64 hi] := hg 1
 have k2 : g 2 = .slice (some ⟨bo, oo, none⟩) (n) (c) := hg 2
 clear hg
 have fB0 : Below w.heap.size w w := Below.refl _ _
 refine wp_seq_k fun K1 hK1 => ?_
 refine region_dk 3 [(3, 0), (4, 1), (6, 2)] [[], [], []] (rel [bx 0 #[.int .i64 up, .int .i64 dn] 41,
   bx 1 #[.int .i64 lo, .int .i64 hi] 43,
   is (.int .i64 0)])
  ⟨bx_k, bx_k, is_k, trivial⟩
  ⟨fun f s W d j k l m a => opb rfl rfl (by simp [go_sem, a.e 0 k0]),
  fun f s W d j k l m a => opb rfl rfl (by simp [go_sem, a.e 1 k1]),
  fun f s W d j k l m a => opv rfl rfl (by simp [go_sem]) rfl, trivial⟩ ?_
 intro f1 s1 W1 hB1 g1 hg1
 have fB1 := hB1.f fB0
 have z1 := hB1.below.size
 obtain ⟨r1_0, br1_0⟩ := hB1.is 0
 have lr1_0 := hB1.lr 0 br1_0
 obtain ⟨r1_1, br1_1⟩ := hB1.is 1
 have lr1_1 := hB1.lr 1 br1_1
 have ne1_0_1 := hB1.nb 0 1
 refine hK1 _ _ ?_
 have k1_2 := kt hg1 2 k2
 have k1_3 := kt hg1 3 r1_0
 have k1_4 := kt hg1 4 r1_1
 have k1_6 := kt hg1 6 (hB1.is 2)
 refine wp_seq_k fun K2 hK2 => ?_
 refine region_dk 1 [(7, 0)] [[]] (rel [is (.func (.func 50) #[] #[])])
  ⟨is_k, trivial⟩
  ⟨fun f s W d j k l m a => opv rfl rfl (by simp [go_sem]) rfl, trivial⟩ ?_
 intro f2 s2 W2 hB2 g2 hg2
 have fB2 := hB2.f fB1
 have z2 := hB2.below.size
 have b2_0 := hB2.b br1_0
 have b2_1 := hB2.b br1_1
 refine hK2 _ _ ?_
 have k2_2 := kt hg2 2 k1_2
 have k2_3 := kt hg2 3 k1_3
 have k2_4 := kt hg2 4 k1_4
 have k2_6 := kt hg2 6 k1_6
 have k2_7 := kt hg2 7 (hB2.is 0)
 refine wp_seq_k fun K3 hK3 => ?_
 refine wp_block ?_
 refine wp_seq_k fun K4 hK4 => ?_
 refine region_dk 4 [(9, 0), (10, 1), (11, 2), (8, 3)] [[], [0], [0, 1], [0, 1, 2]] (rel [is (.agg #[.int .i64 up, .int .i64 dn]),
   is (.bool true),
   is (.bool false),
   is (.bool false)])
  ⟨is_k, is_k, is_k, is_k, trivial⟩
  ⟨fun f s W d j k l m a => opv rfl rfl (by simp [go_sem, a.e 3 k2_3, cb b2_0 d 0, cb b2_0 d 1]) rfl,
  fun f s W d j k l m a => opc rfl rfl (by simp [go_sem, a.e 9 (j 0 rfl)]) (isRule_yes (up) (dn) W gu gd),
  fun f s W d j k l m a => opv rfl rfl (by simp [go_sem, a.e 10 (j 1 rfl)]) rfl,
  fun f s W d j k l m a => opv rfl rfl (by simp [go_sem, a.e 11 (j 2 rfl)]) rfl, trivial⟩ ?_
 intro f3 s3 W3 hB3 g3 hg3
 have fB3 := hB3.f fB2
 have z3 := hB3.below.size
 have b3_0 := hB3.b b2_0
 have b3_1 := hB3.b b2_1
 refine hK4 _ _ ?_
 have k3_2 := kt hg3 2 k2_2
 have k3_4 := kt hg3 4 k2_4
 have k3_6 := kt hg3 6 k2_6
 have k3_7 := kt hg3 7 k2_7
 have k3_8 := kt hg3 8 (hB3.is 3)
 refine wp_cond_false ((fr_eval rfl).trans k3_8) ?_
 refine wp_seq_k fun K6 hK6 => ?_
 refine region_dk 5 [(13, 0), (14, 1), (15, 2), (16, 3), (12, 4)] [[], [0], [0, 1], [0, 1, 2], [0, 1, 2, 3]] (rel [is (.agg #[.int .i64 lo, .int .i64 hi]),
   row 1 1 #[.int .i64 lo, .int .i64 hi] 43,
   is (.bool true),
   is (.bool false),
   is (.bool false)])
  ⟨is_k, row_k, is_k, is_k, is_k, trivial⟩
  ⟨fun f s W d j k l m a => opv rfl rfl (by simp [go_sem, a.e 4 k3_4, cb b3_1 d 0, cb b3_1 d 1]) rfl,
  fun f s W d j k l m a => opr rfl rfl (by simp [go_sem, a.e 13 (j 0 rfl)]),
  fun f s W d j k l m a => opc (args := #[.slice (some ⟨(s 1), 0, none⟩) (1) (1)]) rfl rfl (by simp [go_sem, a.e 14 (j 1 rfl).1]) (moist_yes (fun _ => (lo, hi)) (s 1) 0 1 1 W (spR1 (j 1 rfl).2) (fun _ _ => ⟨by omega⟩) (by decide)),
  fun f s W d j k l m a => opv rfl rfl (by simp [go_sem, a.e 15 (j 2 rfl)]) rfl,
  fun f s W d j k l m a => opv rfl rfl (by simp [go_sem, a.e 16 (j 3 rfl)]) rfl, trivial⟩ ?_
 intro f4 s4 W4 hB4 g4 hg4
 have fB4 := hB4.f fB3
 have z4 := hB4.below.size
 have b4_0 := hB4.b b3_0
 have b4_1 := hB4.b b3_1
 obtain ⟨r4_1, br4_1⟩ := hB4.is 1
 have lr4_1 := hB4.lr 1 br4_1
 refine hK6 _ _ ?_
 have k4_2 := kt hg4 2 k3_2
 have k4_6 := kt hg4 6 k3_6
 have k4_7 := kt hg4 7 k3_7
 have k4_12 := kt hg4 12 (hB4.is 4)
 refine wp_cond_false ((fr_eval rfl).trans k4_12) ?_
 refine wp_seq_k fun K8 hK8 => ?_
 refine region_dk 4 [(18, 0), (19, 1), (20, 2), (17, 3)] [[], [0], [0, 1], [0, 1, 2]] (rel [is (.slice (some ⟨bo, oo, none⟩) (n) (c)),
   is (.int .i64 ((n : Int))),
   is (.bool false),
   is (.bool false)])
  ⟨is_k, is_k, is_k, is_k, trivial⟩
  ⟨fun f s W d j k l m a => opv rfl rfl (by simp [go_sem, a.e 2 k4_2]) rfl,
  fun f s W d j k l m a => opv rfl rfl (by simp [go_sem, a.e 18 (j 0 rfl)]) rfl,
  fun f s W d j k l m a => opv rfl rfl (by simp [go_sem, a.e 19 (j 1 rfl), hn_]) rfl,
  fun f s W d j k l m a => opv rfl rfl (by simp [go_sem, a.e 20 (j 2 rfl)]) rfl, trivial⟩ ?_
 intro f5 s5 W5 hB5 g5 hg5
 have fB5 := hB5.f fB4
 have z5 := hB5.below.size
 have b5_0 := hB5.b b4_0
 have b5_1 := hB5.b b4_1
 have b5_2 := hB5.b br4_1
 refine hK8 _ _ ?_
 have k5_2 := kt hg5 2 k4_2
 have k5_6 := kt hg5 6 k4_6
 have k5_7 := kt hg5 7 k4_7
 have k5_17 := kt hg5 17 (hB5.is 3)
 refine wp_cond_false ((fr_eval rfl).trans k5_17) ?_
 refine wp_seq_k fun K10 hK10 => ?_
 refine region_dk 4 [(22, 0), (23, 1), (24, 2), (21, 3)] [[], [], [0, 1], [0, 1, 2]] (rel [is (.slice (some ⟨bo, oo, none⟩) (n) (c)),
   is (.func (.func 50) #[] #[]),
   is (.bool false),
   is (.bool false)])
  ⟨is_k, is_k, is_k, is_k, trivial⟩
  ⟨fun f s W d j k l m a => opv rfl rfl (by simp [go_sem, a.e 2 k5_2]) rfl,
  fun f s W d j k l m a => opv rfl rfl (by simp [go_sem, a.e 7 k5_7]) rfl,
  fun f s W d j k l m a => by have o := below_trans fB5 d; exact opc rfl rfl (by simp [go_sem, a.e 22 (j 0 rfl), a.e 23 (j 1 rfl)]) (dcheck_contains ds bo oo n c W (hO.below o) ho gn),
  fun f s W d j k l m a => opv rfl rfl (by simp [go_sem, a.e 24 (j 2 rfl)]) rfl, trivial⟩ ?_
 intro f6 s6 W6 hB6 g6 hg6
 have fB6 := hB6.f fB5
 have z6 := hB6.below.size
 have b6_0 := hB6.b b5_0
 have b6_1 := hB6.b b5_1
 have b6_2 := hB6.b b5_2
 refine hK10 _ _ ?_
 have k6_6 := kt hg6 6 k5_6
 have k6_21 := kt hg6 21 (hB6.is 3)
 refine wp_cond_false ((fr_eval rfl).trans k6_21) ?_
 refine wp_skip ?_
 refine inBlock_normal ?_
 refine hK3 _ _ ?_
 refine wp_seq_k fun K12 hK12 => ?_
 refine region_dk 1 [(6, 0)] [[]] (rel [is (.int .i64 0)])
  ⟨is_k, trivial⟩
  ⟨fun f s W d j k l m a => opv rfl rfl (by simp [go_sem]) rfl, trivial⟩ ?_
 intro f7 s7 W7 hB7 g7 hg7
 have fB7 := hB7.f fB6
 have z7 := hB7.below.size
 have b7_0 := hB7.b b6_0
 have b7_1 := hB7.b b6_1
 have b7_2 := hB7.b b6_2
 refine hK12 _ _ ?_
 have k7_6 := kt hg7 6 (hB7.is 0)
 refine wp_ret ?_
 refine leave_one (N := 25) (v := .int .i64 0) (.inr rfl) Try.results26 rfl k7_6 ?_
 exact ⟨rfl, fB7⟩
set_option maxRecDepth 100000 in
set_option maxHeartbeats 400000 in
theorem toward_any (up dn fm rm h : Int) (w : World) (gu : 0 ≤ up ∧ up ≤ 50) (gd : 0 ≤ dn ∧ dn ≤ 50) (hf_ : 0 ≤ fm ∧ fm ≤ 300) (hr_ : 0 ≤ rm ∧ rm ≤ 300) (hh_ : 0 ≤ h ∧ h ≤ 501) :
  Calls Try.prog 107 #[.agg #[.int .i64 up, .int .i64 dn], .int .i64 fm, .int .i64 rm, .int .i64 h] w (fun e w' => e = .returned (.int .i64 (towF up dn fm rm h)) ∧ Below w.heap.size w w') := by
 have hb_ := towF_bd gu gd hf_ hr_ hh_
 refine calls_fr Try.func107 Try.ntmps107 rfl rfl fun g hg => ?_
 have k0 : g 0 = .agg #[.int .i64 up, .int .i64 dn] := hg 0
 have k1 : g 1 = .int .i64 fm := hg 1
 have k2 : g 2 = .int .i64 rm := hg 2
 have k3 : g 3 = .int .i64 h := hg 3
 clear hg
 have fB0 : Below w.heap.size w w := Below.refl _ _
 refine wp_seq_k fun K1 hK1 => ?_
 refine region_dk 2 [(4, 0), (8, 1)] [[], []] (rel [bx 0 #[.int .i64 up, .int .i64 dn] 41,
   is (.int .i64 0)])
  ⟨bx_k, is_k, trivial⟩
  ⟨fun f s W c d i j k a => opb rfl rfl (by simp [go_sem, a.e 0 k0]),
  fun f s W c d i j k a => opv rfl rfl (by simp [go_sem]) rfl, trivial⟩ ?_
 intro f1 s1 W1 hB1 g1 hg1
 have fB1 := hB1.f fB0
 have z1 := hB1.below.size
 obtain ⟨r1_0, br1_0⟩ := hB1.is 0
 have lr1_0 := hB1.lr 0 br1_0
 refine hK1 _ _ ?_
 have k1_1 := kt hg1 1 k1
 have k1_2 := kt hg1 2 k2
 have k1_3 := kt hg1 3 k3
 have k1_4 := kt hg1 4 r1_0
 have k1_8 := kt hg1 8 (hB1.is 1)
 refine wp_seq_k fun K2 hK2 => ?_
 refine wp_seq_k fun K3 hK3 => ?_
 refine region_dk 3 [(9, 0), (10, 1), (11, 2)] [[], [], [0, 1]] (rel [is (.int .i64 rm),
   is (.int .i64 fm),
   is (.bool (decide (fm < rm)))])
  ⟨is_k, is_k, is_k, trivial⟩
  ⟨fun f s W c d i j k a => opv rfl rfl (by simp [go_sem, a.e 2 k1_2]) rfl,
  fun f s W c d i j k a => opv rfl rfl (by simp [go_sem, a.e 1 k1_1]) rfl,
  fun f s W c d i j k a => opv rfl rfl (by simp [go_sem, a.e 9 (d 0 rfl), a.e 10 (d 1 rfl)]) rfl, trivial⟩ ?_
 intro f2 s2 W2 hB2 g2 hg2
 have fB2 := hB2.f fB1
 have z2 := hB2.below.size
 have b2_0 := hB2.b br1_0
 refine hK3 _ _ ?_
 have k2_1 := kt hg2 1 k1_1
 have k2_2 := kt hg2 2 k1_2
 have k2_3 := kt hg2 3 k1_3
 have k2_4 := kt hg2 4 k1_4
 have k2_8 := kt hg2 8 k1_8
 have k2_11 := kt hg2 11 (hB2.is 2)
 refine wp_cond_split (t := decide (fm < rm)) ((fr_eval rfl).trans k2_11) (fun hc4 => ?_) (fun hc4 => ?_)
 ·
  have hc4' := hc4; try simp only [ba] at hc4'
  have hc_ : towF up dn fm rm h = min rm (fm + up * h) := if_pos (by omega)
  refine wp_seq_k fun K5 hK5 => ?_
  refine region_dk 9 [(12, 0), (13, 1), (14, 2), (15, 3), (16, 4), (17, 5), (18, 6), (19, 7), (8, 8)] [[], [], [], [2], [], [2, 3, 4], [1, 2, 3, 4, 5], [0, 1, 2, 3, 4, 5, 6], [0, 1, 2, 3, 4, 5, 6, 7]] (rel [is (.int .i64 rm),
   is (.int .i64 fm),
   is (.pointer (some ⟨(s1 0), 0, none⟩)),
   is (.int .i64 up),
   is (.int .i64 h),
   is (.int .i64 (up * h)),
   is (.int .i64 (fm + (up * h))),
   is (.int .i64 (min rm (fm + (up * h)))),
   is (.int .i64 (min rm (fm + (up * h))))])
   ⟨is_k, is_k, is_k, is_k, is_k, is_k, is_k, is_k, is_k, trivial⟩
   ⟨fun f s W c d i j k a => opv rfl rfl (by simp [go_sem, a.e 2 k2_2]) rfl,
  fun f s W c d i j k a => opv rfl rfl (by simp [go_sem, a.e 1 k2_1]) rfl,
  fun f s W c d i j k a => opv rfl rfl (by simp [go_sem, a.e 4 k2_4]) rfl,
  fun f s W c d i j k a => opv rfl rfl (by simp [go_sem, a.e 14 (d 2 rfl), cb b2_0 c 0]) rfl,
  fun f s W c d i j k a => opv rfl rfl (by simp [go_sem, a.e 3 k2_3]) rfl,
  fun f s W c d i j k a => opv rfl rfl (by simp [go_sem, a.e 15 (d 3 rfl), a.e 16 (d 4 rfl), IntWalk.i64_in (up * h) (by omega)]) rfl,
  fun f s W c d i j k a => opv rfl rfl (by simp [go_sem, a.e 13 (d 1 rfl), a.e 17 (d 5 rfl), IntWalk.i64_in (fm + (up * h)) (by omega)]) rfl,
  fun f s W c d i j k a => opv rfl rfl (by simp [go_sem, a.e 12 (d 0 rfl), a.e 18 (d 6 rfl)]) rfl,
  fun f s W c d i j k a => opv rfl rfl (by simp [go_sem, a.e 19 (d 7 rfl)]) rfl, trivial⟩ ?_
  intro f3 s3 W3 hB3 g3 hg3
  have fB3 := hB3.f fB2
  have z3 := hB3.below.size
  have b3_0 := hB3.b b2_0
  refine hK5 _ _ ?_
  have k3_1 := kt hg3 1 k2_1
  have k3_2 := kt hg3 2 k2_2
  have k3_3 := kt hg3 3 k2_3
  have k3_4 := kt hg3 4 k2_4
  have k3_8 := kt hg3 8 (hB3.is 8)
  refine wp_ret ?_
  refine then_ret ?_
  refine leave_one (N := 28) (v := .int .i64 (min rm (fm + (up * h)))) (.inr rfl) Try.results107 rfl k3_8 ?_
  rw [hc_]
  exact ⟨rfl, fB3⟩
 ·
  have hc4' := hc4; try simp only [ba] at hc4'
  have hc_ : towF up dn fm rm h = max rm (fm - dn * h) := if_neg (by omega)
  refine wp_skip ?_
  refine hK2 _ _ ?_
  refine wp_seq_k fun K6 hK6 => ?_
  refine region_dk 9 [(20, 0), (21, 1), (22, 2), (23, 3), (24, 4), (25, 5), (26, 6), (27, 7), (8, 8)] [[], [], [], [2], [], [2, 3, 4], [1, 2, 3, 4, 5], [0, 1, 2, 3, 4, 5, 6], [0, 1, 2, 3, 4, 5, 6, 7]] (rel [is (.int .i64 rm),
   is (.int .i64 fm),
   is (.pointer (some ⟨(s1 0), 1, none⟩)),
   is (.int .i64 dn),
   is (.int .i64 h),
   is (.int .i64 (dn * h)),
   is (.int .i64 (fm - (dn * h))),
   is (.int .i64 (max rm (fm - (dn * h)))),
   is (.int .i64 (max rm (fm - (dn * h))))])
   ⟨is_k, is_k, is_k, is_k, is_k, is_k, is_k, is_k, is_k, trivial⟩
   ⟨fun f s W c d i j k a => opv rfl rfl (by simp [go_sem, a.e 2 k2_2]) rfl,
  fun f s W c d i j k a => opv rfl rfl (by simp [go_sem, a.e 1 k2_1]) rfl,
  fun f s W c d i j k a => opv rfl rfl (by simp [go_sem, a.e 4 k2_4]) rfl,
  fun f s W c d i j k a => opv rfl rfl (by simp [go_sem, a.e 22 (d 2 rfl), cb b2_0 c 1]) rfl,
  fun f s W c d i j k a => opv rfl rfl (by simp [go_sem, a.e 3 k2_3]) rfl,
  fun f s W c d i j k a => opv rfl rfl (by simp [go_sem, a.e 23 (d 3 rfl), a.e 24 (d 4 rfl), IntWalk.i64_in (dn * h) (by omega)]) rfl,
  fun f s W c d i j k a => opv rfl rfl (by simp [go_sem, a.e 21 (d 1 rfl), a.e 25 (d 5 rfl), IntWalk.i64_in (fm - (dn * h)) (by omega)]) rfl,
  fun f s W c d i j k a => opv rfl rfl (by simp [go_sem, a.e 20 (d 0 rfl), a.e 26 (d 6 rfl)]) rfl,
  fun f s W c d i j k a => opv rfl rfl (by simp [go_sem, a.e 27 (d 7 rfl)]) rfl, trivial⟩ ?_
  intro f4 s4 W4 hB4 g4 hg4
  have fB4 := hB4.f fB2
  have z4 := hB4.below.size
  have b4_0 := hB4.b b2_0
  refine hK6 _ _ ?_
  have k4_8 := kt hg4 8 (hB4.is 8)
  refine wp_ret ?_
  refine leave_one (N := 28) (v := .int .i64 (max rm (fm - (dn * h)))) (.inr rfl) Try.results107 rfl k4_8 ?_
  rw [hc_]
  exact ⟨rfl, fB4⟩
set_option maxRecDepth 100000 in
set_option maxHeartbeats 400000 in
theorem hours_any (up dn lo hi rl rh h : Int) (w : World) (gu : 0 ≤ up ∧ up ≤ 50) (gd : 0 ≤ dn ∧ dn ≤ 50) (hm : MoIn lo hi) (hr : MoIn rl rh) (hh_ : 0 ≤ h ∧ h ≤ 501) :
  Calls Try.prog 56 #[.agg #[.int .i64 lo, .int .i64 hi], .agg #[.int .i64 up, .int .i64 dn], .agg #[.int .i64 rl, .int .i64 rh], .int .i64 h] w (fun e w' => e = .returned (.agg #[.int .i64 (towF up dn lo rl h), .int .i64 (towF up dn hi rh h)]) ∧ Below w.heap.size w w') := by
 have h1_ := hm.h
 have h2_ := hr.h
 refine calls_fr Try.func56 Try.ntmps56 rfl rfl fun g hg => ?_
 have k0 : g 0 = .agg #[.int .i64 lo, .int .i64 hi] := hg 0
 have k1 : g 1 = .agg #[.int .i64 up, .int .i64 dn] := hg 1
 have k2 : g 2 = .agg #[.int .i64 rl, .int .i64 rh] := hg 2
 have k3 : g 3 = .int .i64 h := hg 3
 clear hg
 have fB0 : Below w.heap.size w w := Below.refl _ _
 refine wp_seq_k fun K1 hK1 => ?_
 refine region_dk 4 [(4, 0), (5, 1), (6, 2), (8, 3)] [[], [], [], []] (rel [bx 0 #[.int .i64 lo, .int .i64 hi] 103,
   bx 1 #[.int .i64 up, .int .i64 dn] 41,
   bx 2 #[.int .i64 rl, .int .i64 rh] 43,
   bx 3 #[.int .i64 0, .int .i64 0] 103])
  ⟨bx_k, bx_k, bx_k, bx_k, trivial⟩
  ⟨fun f s W c d i j k a => opb rfl rfl (by simp [go_sem, a.e 0 k0]),
  fun f s W c d i j k a => opb rfl rfl (by simp [go_sem, a.e 1 k1]),
  fun f s W c d i j k a => opb rfl rfl (by simp [go_sem, a.e 2 k2]),
  fun f s W c d i j k a => opb rfl rfl (by simp [go_sem]), trivial⟩ ?_
 intro f1 s1 W1 hB1 g1 hg1
 have fB1 := hB1.f fB0
 have z1 := hB1.below.size
 obtain ⟨r1_0, br1_0⟩ := hB1.is 0
 have lr1_0 := hB1.lr 0 br1_0
 obtain ⟨r1_1, br1_1⟩ := hB1.is 1
 have lr1_1 := hB1.lr 1 br1_1
 obtain ⟨r1_2, br1_2⟩ := hB1.is 2
 have lr1_2 := hB1.lr 2 br1_2
 obtain ⟨r1_3, br1_3⟩ := hB1.is 3
 have lr1_3 := hB1.lr 3 br1_3
 have ne1_0_1 := hB1.nb 0 1
 have ne1_0_2 := hB1.nb 0 2
 have ne1_1_2 := hB1.nb 1 2
 have ne1_0_3 := hB1.nb 0 3
 have ne1_1_3 := hB1.nb 1 3
 have ne1_2_3 := hB1.nb 2 3
 refine hK1 _ _ ?_
 have k1_3 := kt hg1 3 k3
 have k1_4 := kt hg1 4 r1_0
 have k1_5 := kt hg1 5 r1_1
 have k1_6 := kt hg1 6 r1_2
 have k1_8 := kt hg1 8 r1_3
 refine wp_seq_k fun K2 hK2 => ?_
 refine region_dk 18 [(9, 0), (10, 1), (11, 2), (12, 3), (13, 4), (14, 5), (15, 6), (16, 7), (17, 8), (18, 9), (19, 10), (20, 11), (21, 12), (22, 13), (23, 14), (24, 15), (25, 16), (26, 17)] [[], [], [1], [1, 2], [], [4], [], [0, 1, 2, 3, 4, 5, 6], [], [], [9], [9, 10], [], [12], [], [0, 1, 2, 3, 4, 5, 6, 7, 8, 9, 10, 11, 12, 13, 14], [0, 1, 2, 3, 4, 5, 6, 7, 8, 9, 10, 11, 12, 13, 14, 15], [0, 1, 2, 3, 4, 5, 6, 7, 8, 9, 10, 11, 12, 13, 14, 15, 16], [0, 1, 2, 3, 4, 5, 6, 7, 8, 9, 10, 11, 12, 13, 14, 15, 16, 17]] (rel [is (.agg #[.int .i64 up, .int .i64 dn]),
   is (.pointer (some ⟨(s1 0), 0, none⟩)),
   is (.pointer (some ⟨(s1 0), 0, none⟩)),
   is (.int .i64 lo),
   is (.pointer (some ⟨(s1 2), 0, none⟩)),
   is (.int .i64 rl),
   is (.int .i64 h),
   is (.int .i64 ((towF up dn lo rl h))),
   is (.agg #[.int .i64 up, .int .i64 dn]),
   is (.pointer (some ⟨(s1 0), 0, none⟩)),
   is (.pointer (some ⟨(s1 0), 1, none⟩)),
   is (.int .i64 hi),
   is (.pointer (some ⟨(s1 2), 1, none⟩)),
   is (.int .i64 rh),
   is (.int .i64 h),
   is (.int .i64 ((towF up dn hi rh h))),
   is (.agg #[.int .i64 ((towF up dn lo rl h)), .int .i64 ((towF up dn hi rh h))]),
   is (.agg #[.int .i64 ((towF up dn lo rl h)), .int .i64 ((towF up dn hi rh h))])])
  ⟨is_k, is_k, is_k, is_k, is_k, is_k, is_k, is_k, is_k, is_k, is_k, is_k, is_k, is_k, is_k, is_k, is_k, is_k, trivial⟩
  ⟨fun f s W c d i j k a => opv rfl rfl (by simp [go_sem, a.e 5 k1_5, cb br1_1 c 0, cb br1_1 c 1]) rfl,
  fun f s W c d i j k a => opv rfl rfl (by simp [go_sem, a.e 4 k1_4]) rfl,
  fun f s W c d i j k a => opv rfl rfl (by simp [go_sem, a.e 10 (d 1 rfl)]) rfl,
  fun f s W c d i j k a => opv rfl rfl (by simp [go_sem, a.e 11 (d 2 rfl), cb br1_0 c 0]) rfl,
  fun f s W c d i j k a => opv rfl rfl (by simp [go_sem, a.e 6 k1_6]) rfl,
  fun f s W c d i j k a => opv rfl rfl (by simp [go_sem, a.e 13 (d 4 rfl), cb br1_2 c 0]) rfl,
  fun f s W c d i j k a => opv rfl rfl (by simp [go_sem, a.e 3 k1_3]) rfl,
  fun f s W c d i j k a => opc rfl rfl (by simp [go_sem, a.e 9 (d 0 rfl), a.e 12 (d 3 rfl), a.e 14 (d 5 rfl), a.e 15 (d 6 rfl)]) (toward_any (up) (dn) (lo) (rl) (h) W gu gd (by omega) (by omega) (by omega)),
  fun f s W c d i j k a => opv rfl rfl (by simp [go_sem, a.e 5 k1_5, cb br1_1 c 0, cb br1_1 c 1]) rfl,
  fun f s W c d i j k a => opv rfl rfl (by simp [go_sem, a.e 4 k1_4]) rfl,
  fun f s W c d i j k a => opv rfl rfl (by simp [go_sem, a.e 18 (d 9 rfl)]) rfl,
  fun f s W c d i j k a => opv rfl rfl (by simp [go_sem, a.e 19 (d 10 rfl), cb br1_0 c 1]) rfl,
  fun f s W c d i j k a => opv rfl rfl (by simp [go_sem, a.e 6 k1_6]) rfl,
  fun f s W c d i j k a => opv rfl rfl (by simp [go_sem, a.e 21 (d 12 rfl), cb br1_2 c 1]) rfl,
  fun f s W c d i j k a => opv rfl rfl (by simp [go_sem, a.e 3 k1_3]) rfl,
  fun f s W c d i j k a => opc rfl rfl (by simp [go_sem, a.e 17 (d 8 rfl), a.e 20 (d 11 rfl), a.e 22 (d 13 rfl), a.e 23 (d 14 rfl)]) (toward_any (up) (dn) (hi) (rh) (h) W gu gd (by omega) (by omega) (by omega)),
  fun f s W c d i j k a => opv rfl rfl (by simp [go_sem, a.e 16 (d 7 rfl), a.e 24 (d 15 rfl)]) rfl,
  fun f s W c d i j k a => opv rfl rfl (by simp [go_sem, a.e 25 (d 16 rfl)]) rfl, trivial⟩ ?_
 intro f2 s2 W2 hB2 g2 hg2
 have fB2 := hB2.f fB1
 have z2 := hB2.below.size
 have b2_0 := hB2.b br1_0
 have b2_1 := hB2.b br1_1
 have b2_2 := hB2.b br1_2
 have b2_3 := hB2.b br1_3
 have k2_8 := kt hg2 8 k1_8
 have k2_26 := kt hg2 26 (hB2.is 17)
 obtain ⟨W3, hW3⟩ : ∃ W', W' = W2.setRow (s1 3) #[.int .i64 ((towF up dn lo rl h)), .int .i64 ((towF up dn hi rh h))] := ⟨_, rfl⟩
 refine tail_skip (o := _) rfl ⟨rfl, rfl⟩ (run_seg hW3 (fr_ev k2_8) (fr_ev k2_26) b2_3 rfl rfl rfl rfl) ?_
 obtain ⟨fB3, nb3, ot3, z3⟩ := seg_facts hW3 fB2 b2_3 (by omega)
 clear hW3
 have b3_0 := ot3 _ _ (by omega) b2_0
 have b3_1 := ot3 _ _ (by omega) b2_1
 have b3_2 := ot3 _ _ (by omega) b2_2
 refine wpOps_end ?_
 refine hK2 _ _ ?_
 refine wp_ret ?_
 refine leave_gen (v := .agg #[.int .i64 ((towF up dn lo rl h)), .int .i64 ((towF up dn hi rh h))]) (.inr rfl) (by simp [results, Try.results56, go_sem, frv 27 k2_8, cl nb3 0, cl nb3 1]) ?_
 exact ⟨rfl, fB3⟩
set_option maxRecDepth 100000 in
set_option maxHeartbeats 400000 in
theorem lies_any (lo hi il ih : Int) (w : World) :
  Calls Try.prog 59 #[.agg #[.int .i64 lo, .int .i64 hi], .agg #[.int .i64 il, .int .i64 ih]] w (fun e w' => e = .returned (.bool (decide (il ≤ lo) && decide (hi ≤ ih))) ∧ Below w.heap.size w w') := by
 refine calls_fr Try.func59 Try.ntmps59 rfl rfl fun g hg => ?_
 have k0 : g 0 = .agg #[.int .i64 lo, .int .i64 hi] := hg 0
 have k1 : g 1 = .agg #[.int .i64 il, .int .i64 ih] := hg 1
 clear hg
 have fB0 : Below w.heap.size w w := Below.refl _ _
 refine wp_seq_k fun K1 hK1 => ?_
 refine region_dk 3 [(2, 0), (3, 1), (4, 2)] [[], [], []] (rel [bx 0 #[.int .i64 lo, .int .i64 hi] 103,
   bx 1 #[.int .i64 il, .int .i64 ih] 43,
   is (.bool false)])
  ⟨bx_k, bx_k, is_k, trivial⟩
  ⟨fun f s W h i j k l a => opb rfl rfl (by simp [go_sem, a.e 0 k0]),
  fun f s W h i j k l a => opb rfl rfl (by simp [go_sem, a.e 1 k1]),
  fun f s W h i j k l a => opv rfl rfl (by simp [go_sem]) rfl, trivial⟩ ?_
 intro f1 s1 W1 hB1 g1 hg1
 have fB1 := hB1.f fB0
 have z1 := hB1.below.size
 obtain ⟨r1_0, br1_0⟩ := hB1.is 0
 have lr1_0 := hB1.lr 0 br1_0
 obtain ⟨r1_1, br1_1⟩ := hB1.is 1
 have lr1_1 := hB1.lr 1 br1_1
 have ne1_0_1 := hB1.nb 0 1
 refine hK1 _ _ ?_
 have k1_2 := kt hg1 2 r1_0
 have k1_3 := kt hg1 3 r1_1
 have k1_4 := kt hg1 4 (hB1.is 2)
 refine wp_seq_k fun K2 hK2 => ?_
 refine region_dk 15 [(5, 0), (6, 1), (7, 2), (8, 3), (9, 4), (10, 5), (11, 6), (12, 7), (13, 8), (14, 9), (15, 10), (16, 11), (17, 12), (18, 13), (4, 14)] [[], [0], [0, 1], [], [3], [0, 1, 2, 3, 4], [0, 1, 2, 3, 4, 5], [0, 1, 2, 3, 4, 5, 6], [0, 1, 2, 3, 4, 5, 6, 7], [0, 1, 2, 3, 4, 5, 6, 7, 8], [0, 1, 2, 3, 4, 5, 6], [0, 1, 2, 3, 4, 5, 6, 10], [0, 1, 2, 3, 4, 5, 6, 7, 8, 9, 10, 11], [0, 1, 2, 3, 4, 5, 6, 7, 8, 9, 10, 11, 12], [0, 1, 2, 3, 4, 5, 6, 7, 8, 9, 10, 11, 12, 13]] (rel [is (.pointer (some ⟨(s1 0), 0, none⟩)),
   is (.pointer (some ⟨(s1 0), 0, none⟩)),
   is (.int .i64 lo),
   is (.pointer (some ⟨(s1 1), 0, none⟩)),
   is (.int .i64 il),
   is (.bool (decide (il ≤ lo))),
   is (.bool (decide (il ≤ lo))),
   gd (decide (il ≤ lo)) true (is (.pointer (some ⟨(s1 0), 0, none⟩))),
   gd (decide (il ≤ lo)) true (is (.pointer (some ⟨(s1 0), 1, none⟩))),
   gd (decide (il ≤ lo)) true (is (.int .i64 hi)),
   gd (decide (il ≤ lo)) true (is (.pointer (some ⟨(s1 1), 1, none⟩))),
   gd (decide (il ≤ lo)) true (is (.int .i64 ih)),
   gd (decide (il ≤ lo)) true (is (.bool (decide (hi ≤ ih)))),
   is (.bool ((decide (il ≤ lo)) && (decide (hi ≤ ih)))),
   is (.bool ((decide (il ≤ lo)) && (decide (hi ≤ ih))))])
  ⟨is_k, is_k, is_k, is_k, is_k, is_k, is_k, gd_k (is_k), gd_k (is_k), gd_k (is_k), gd_k (is_k), gd_k (is_k), gd_k (is_k), is_k, is_k, trivial⟩
  ⟨fun f s W h i j k l a => opv rfl rfl (by simp [go_sem, a.e 2 k1_2]) rfl,
  fun f s W h i j k l a => opv rfl rfl (by simp [go_sem, a.e 5 (i 0 rfl)]) rfl,
  fun f s W h i j k l a => opv rfl rfl (by simp [go_sem, a.e 6 (i 1 rfl), cb br1_0 h 0]) rfl,
  fun f s W h i j k l a => opv rfl rfl (by simp [go_sem, a.e 3 k1_3]) rfl,
  fun f s W h i j k l a => opv rfl rfl (by simp [go_sem, a.e 8 (i 3 rfl), cb br1_1 h 0]) rfl,
  fun f s W h i j k l a => opv rfl rfl (by simp [go_sem, a.e 7 (i 2 rfl), a.e 9 (i 4 rfl)]) rfl,
  fun f s W h i j k l a => opv rfl rfl (by simp [go_sem, a.e 10 (i 5 rfl)]) rfl,
  fun f s W h i j k l a => gdo rfl rfl (a.says (d := 11) rfl rfl (i 6 rfl)) fun hgd0 => gv (by simp [go_sem, a.e 2 k1_2]) rfl,
  fun f s W h i j k l a => gdo rfl rfl (a.says (d := 11) rfl rfl (i 6 rfl)) fun hgd0 => gv (by simp [go_sem, a.e 12 ((i 7 rfl).1 hgd0)]) rfl,
  fun f s W h i j k l a => gdo rfl rfl (a.says (d := 11) rfl rfl (i 6 rfl)) fun hgd0 => gv (by simp [go_sem, a.e 13 ((i 8 rfl).1 hgd0), cb br1_0 h 1]) rfl,
  fun f s W h i j k l a => gdo rfl rfl (a.says (d := 11) rfl rfl (i 6 rfl)) fun hgd0 => gv (by simp [go_sem, a.e 3 k1_3]) rfl,
  fun f s W h i j k l a => gdo rfl rfl (a.says (d := 11) rfl rfl (i 6 rfl)) fun hgd0 => gv (by simp [go_sem, a.e 15 ((i 10 rfl).1 hgd0), cb br1_1 h 1]) rfl,
  fun f s W h i j k l a => gdo rfl rfl (a.says (d := 11) rfl rfl (i 6 rfl)) fun hgd0 => gv (by simp [go_sem, a.e 14 ((i 9 rfl).1 hgd0), a.e 16 ((i 11 rfl).1 hgd0)]) rfl,
  fun f s W h i j k l a => opk (c := decide (il ≤ lo)) rfl rfl (fun hpk => by first | (simp [go_sem, hpk, a.e 11 (i 6 rfl)]; done) | (have hpk' := hpk; simp at hpk'; simp [go_sem, hpk', hpk, a.e 11 (i 6 rfl)]; done) | (have hpk' := of_decide_eq_false hpk; simp only [Int.ofNat_lt] at hpk'; simp [go_sem, hpk', hpk, a.e 11 (i 6 rfl)])) (fun hpk => by first | (simp [go_sem, hpk, a.e 11 (i 6 rfl), a.e 17 ((i 12 rfl).1 hpk)]; done) | (have hpk' := hpk; simp at hpk'; simp [go_sem, hpk', hpk, a.e 11 (i 6 rfl), a.e 17 ((i 12 rfl).1 hpk)]; done) | (have hpk' := of_decide_eq_false hpk; simp only [Int.ofNat_lt] at hpk'; simp [go_sem, hpk', hpk, a.e 11 (i 6 rfl), a.e 17 ((i 12 rfl).1 hpk)])),
  fun f s W h i j k l a => opv rfl rfl (by simp [go_sem, a.e 18 (i 13 rfl)]) rfl, trivial⟩ ?_
 intro f2 s2 W2 hB2 g2 hg2
 have fB2 := hB2.f fB1
 have z2 := hB2.below.size
 have b2_0 := hB2.b br1_0
 have b2_1 := hB2.b br1_1
 refine hK2 _ _ ?_
 have k2_4 := kt hg2 4 (hB2.is 14)
 refine wp_ret ?_
 refine leave_one (N := 19) (v := .bool ((decide (il ≤ lo)) && (decide (hi ≤ ih)))) (.inr rfl) Try.results59 rfl k2_4 ?_
 exact ⟨rfl, fB2⟩
end Go.Proofs.Ytcgccflcjejlhaa
