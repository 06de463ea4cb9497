/- Part of the proof: what the claim leans on. -/
import Derived.Test.YtnhipdbdolabkaaWAJ
set_option linter.unusedSimpArgs false
set_option linter.unusedVariables false
namespace Go.Proofs.Ytnhipdbdolabkaa
open Go.RowKit
theorem tr_within_yes {lo hi : Int} {xs : List Int} (h : ∀ x ∈ xs, lo ≤ x ∧ x ≤ hi) : within lo hi xs = true := by
  unfold within
  simp only [Bool.not_eq_true', List.any_eq_false]
  intro x hx
  have := h x hx
  simp; omega
/-- The knives of the first webs: behind the k-th order's webs, and i webs of the next one. -/
def webF (wd : Int) (at' : Int) : Nat → List Int
  | 0 => []
  | i + 1 => webF wd at' i ++ [at' + wd * ((i : Int) + 1)]
def atF (os : Nat → To) (xs : List Int) (a0 : Int) : Nat → Int
  | 0 => a0
  | k + 1 => atF os xs a0 k + elT xs k * (os k).wd
def knF (os : Nat → To) (xs : List Int) (a0 : Int) : Nat → List Int
  | 0 => [a0]
  | k + 1 => knF os xs a0 k ++ webF (os k).wd (atF os xs a0 k) (elT xs k).toNat
set_option maxRecDepth 100000 in
set_option maxHeartbeats 400000 in
theorem tr_isSpan_yes (lo hi la lb : Int) (w : World) (hs_ : la ≤ lo ∧ lo ≤ hi ∧ hi ≤ lb) :
  Calls Try.prog 43 #[.agg #[.int .i64 lo, .int .i64 hi], .int .i64 la, .int .i64 lb] w (fun e w' => e = .returned (.bool true) ∧ Below w.heap.size w w') := by
 have hlh_ : decide (lo ≤ hi) = true := decide_eq_true hs_.2.1
 refine calls_fr Try.func43 Try.ntmps43 rfl rfl fun g hg => ?_
 have k0 : g 0 = .agg #[.int .i64 lo, .int .i64 hi] := hg 0
 have k1 : g 1 = .int .i64 la := hg 1
 have k2 : g 2 = .int .i64 lb := hg 2
 clear hg
 have fB0 : Below w.heap.size w w := Below.refl _ _
 refine wp_seq_k fun K1 hK1 => ?_
 refine region_dk 2 [(3, 0), (6, 1)] [[], []] (rel [bx 0 #[.int .i64 lo, .int .i64 hi] 33,
   is (.bool false)])
  ⟨bx_k, is_k, trivial⟩
  ⟨fun f s W i j k l m a => opb rfl rfl (by simp [go_sem, a.e 0 k0]),
  fun f s W i j k l m a => opv rfl rfl (by simp [go_sem]) rfl, trivial⟩ ?_
 intro f1 s1 W1 hB1 g1 hg1
 have fB1 := hB1.f fB0
 have z1 := hB1.below.size
 obtain ⟨r1_0, br1_0⟩ := hB1.is 0
 have lr1_0 := hB1.lr 0 br1_0
 refine hK1 _ _ ?_
 have k1_1 := kt hg1 1 k1
 have k1_2 := kt hg1 2 k2
 have k1_3 := kt hg1 3 r1_0
 have k1_6 := kt hg1 6 (hB1.is 1)
 refine wp_seq_k fun K2 hK2 => ?_
 refine region_dk 16 [(7, 0), (8, 1), (9, 2), (10, 3), (11, 4), (12, 5), (13, 6), (14, 7), (15, 8), (16, 9), (17, 10), (18, 11), (19, 12), (20, 13), (21, 14), (6, 15)] [[], [], [], [2], [], [4], [2, 3, 4, 5], [0, 1, 2, 3, 4, 5, 6], [0, 1, 2, 3, 4, 5, 6, 7], [0, 1, 2, 3, 4, 5, 6, 7, 8], [0, 1, 2, 3, 4, 5, 6, 7, 8, 9], [0, 1, 2, 3, 4, 5, 6, 7, 8], [0, 1, 2, 3, 4, 5, 6, 7, 8, 11], [0, 1, 2, 3, 4, 5, 6, 7, 8, 9, 10, 11, 12], [0, 1, 2, 3, 4, 5, 6, 7, 8, 9, 10, 11, 12, 13], [0, 1, 2, 3, 4, 5, 6, 7, 8, 9, 10, 11, 12, 13, 14]] (rel [is (.int .i64 la),
   is (.int .i64 lb),
   is (.pointer (some ⟨(s1 0), 0, none⟩)),
   is (.int .i64 lo),
   is (.pointer (some ⟨(s1 0), 1, none⟩)),
   is (.int .i64 hi),
   row 6 2 #[.int .i64 lo, .int .i64 hi] 3,
   is (.bool true),
   is (.bool true),
   is (.pointer (some ⟨(s1 0), 0, none⟩)),
   is (.int .i64 lo),
   is (.pointer (some ⟨(s1 0), 1, none⟩)),
   is (.int .i64 hi),
   is (.bool true),
   is (.bool true),
   is (.bool true)])
  ⟨is_k, is_k, is_k, is_k, is_k, is_k, row_k, is_k, is_k, is_k, is_k, is_k, is_k, is_k, is_k, is_k, trivial⟩
  ⟨fun f s W i j k l m a => opv rfl rfl (by simp [go_sem, a.e 1 k1_1]) rfl,
  fun f s W i j k l m a => opv rfl rfl (by simp [go_sem, a.e 2 k1_2]) rfl,
  fun f s W i j k l m a => opv rfl rfl (by simp [go_sem, a.e 3 k1_3]) rfl,
  fun f s W i j k l m a => opv rfl rfl (by simp [go_sem, a.e 9 (j 2 rfl), cb br1_0 i 0]) rfl,
  fun f s W i j k l m a => opv rfl rfl (by simp [go_sem, a.e 3 k1_3]) rfl,
  fun f s W i j k l m a => opv rfl rfl (by simp [go_sem, a.e 11 (j 4 rfl), cb br1_0 i 1]) rfl,
  fun f s W i j k l m a => opr rfl rfl (by simp [go_sem, a.e 10 (j 3 rfl), a.e 12 (j 5 rfl)]),
  fun f s W i j k l m a => opDo_call (args := #[.int .i64 la, .int .i64 lb, .slice (some ⟨(s 6), 0, none⟩) (2) (2)]) rfl rfl (by simp [go_sem, a.e 7 (j 0 rfl), a.e 8 (j 1 rfl), a.e 13 (j 6 rfl).1]) (tr_within_any (la) (lb) _ 2 2 [lo, hi] W (ii_block (xs := [lo, hi]) (j 6 rfl).2 rfl rfl)) ((fun e W' h => by have h1 := h.1; rw [tr_within_yes (by simp; omega)] at h1; exact ⟨_, h1, h.2, rfl⟩)),
  fun f s W i j k l m a => opv rfl rfl (by simp [go_sem, a.e 14 (j 7 rfl)]) rfl,
  fun f s W i j k l m a => osure rfl rfl (a.says (d := 15) rfl rfl (j 8 rfl)) (gv (by simp [go_sem, a.e 3 k1_3]) rfl),
  fun f s W i j k l m a => osure rfl rfl (a.says (d := 15) rfl rfl (j 8 rfl)) (gv (by simp [go_sem, a.e 16 (j 9 rfl), cb br1_0 i 0]) rfl),
  fun f s W i j k l m a => osure rfl rfl (a.says (d := 15) rfl rfl (j 8 rfl)) (gv (by simp [go_sem, a.e 3 k1_3]) rfl),
  fun f s W i j k l m a => osure rfl rfl (a.says (d := 15) rfl rfl (j 8 rfl)) (gv (by simp [go_sem, a.e 18 (j 11 rfl), cb br1_0 i 1]) rfl),
  fun f s W i j k l m a => osure rfl rfl (a.says (d := 15) rfl rfl (j 8 rfl)) (gv (by simp [go_sem, a.e 17 (j 10 rfl), a.e 19 (j 12 rfl), hlh_]) rfl),
  fun f s W i j k l m a => opk (c := true) rfl rfl (fun h => absurd h (by decide)) (fun _ => by simp [go_sem, a.e 15 (j 8 rfl), a.e 20 (j 13 rfl)]),
  fun f s W i j k l m a => opv rfl rfl (by simp [go_sem, a.e 21 (j 14 rfl)]) rfl, trivial⟩ ?_
 intro f2 s2 W2 hB2 g2 hg2
 have fB2 := hB2.f fB1
 have z2 := hB2.below.size
 have b2_0 := hB2.b br1_0
 obtain ⟨r2_6, br2_6⟩ := hB2.is 6
 have lr2_6 := hB2.lr 6 br2_6
 refine hK2 _ _ ?_
 have k2_6 := kt hg2 6 (hB2.is 15)
 refine wp_ret ?_
 refine leave_one (N := 22) (v := .bool true) (.inr rfl) Try.results43 rfl k2_6 ?_
 exact ⟨rfl, fB2⟩
set_option maxRecDepth 100000 in
set_option maxHeartbeats 400000 in
theorem tr_open1 (o : To) (w : World) (ho : ToIn o) :
  Calls Try.prog 42 #[.agg #[.int .i64 o.wd, .int .i64 o.lo, .int .i64 o.hi]] w (fun e w' => e = .returned (.bool false) ∧ Below w.heap.size w w') := by
 have h1_ := ho.wd
 have h2_ := ho.need
 refine calls_fr Try.func42 Try.ntmps42 rfl rfl fun g hg => ?_
 have k0 : g 0 = .agg #[.int .i64 o.wd, .int .i64 o.lo, .int .i64 o.hi] := hg 0
 clear hg
 have fB0 : Below w.heap.size w w := Below.refl _ _
 refine wp_seq_k fun K1 hK1 => ?_
 refine region_dk 2 [(1, 0), (2, 1)] [[], []] (rel [bx 0 #[.int .i64 o.wd, .int .i64 o.lo, .int .i64 o.hi] 72,
   is (.bool false)])
  ⟨bx_k, is_k, trivial⟩
  ⟨fun f s W i j k l m a => opb rfl rfl (by simp [go_sem, a.e 0 k0]),
  fun f s W i j k l m a => opv rfl rfl (by simp [go_sem]) rfl, trivial⟩ ?_
 intro f1 s1 W1 hB1 g1 hg1
 have fB1 := hB1.f fB0
 have z1 := hB1.below.size
 obtain ⟨r1_0, br1_0⟩ := hB1.is 0
 have lr1_0 := hB1.lr 0 br1_0
 refine hK1 _ _ ?_
 have k1_1 := kt hg1 1 r1_0
 have k1_2 := kt hg1 2 (hB1.is 1)
 refine wp_seq_k fun K2 hK2 => ?_
 refine region_dk 12 [(3, 0), (4, 1), (5, 2), (6, 3), (7, 4), (8, 5), (9, 6), (10, 7), (11, 8), (12, 9), (13, 10), (2, 11)] [[], [0], [0, 1], [0, 1, 2], [0, 1, 2, 3], [0, 1, 2, 3, 4], [0, 1, 2, 3, 4, 5], [0, 1, 2, 3, 4, 5, 6], [0, 1, 2, 3, 4, 5, 6, 7], [0, 1, 2, 3, 4, 5, 6, 7, 8], [0, 1, 2, 3, 4, 5, 6, 7, 8, 9], [0, 1, 2, 3, 4, 5, 6, 7, 8, 9, 10]] (rel [is (.pointer (some ⟨(s1 0), 0, none⟩)),
   is (.int .i64 o.wd),
   row 2 1 #[.int .i64 o.wd] 3,
   is (.bool true),
   is (.bool false),
   is (.bool false),
   is (.pointer (some ⟨(s1 0), 1, none⟩)),
   is (.agg #[.int .i64 o.lo, .int .i64 o.hi]),
   is (.bool true),
   is (.bool false),
   is (.bool false),
   is (.bool false)])
  ⟨is_k, is_k, row_k, is_k, is_k, is_k, is_k, is_k, is_k, is_k, is_k, is_k, trivial⟩
  ⟨fun f s W i j k l m a => opv rfl rfl (by simp [go_sem, a.e 1 k1_1]) rfl,
  fun f s W i j k l m a => opv rfl rfl (by simp [go_sem, a.e 3 (j 0 rfl), cb br1_0 i 0]) rfl,
  fun f s W i j k l m a => opr rfl rfl (by simp [go_sem, a.e 4 (j 1 rfl)]),
  fun f s W i j k l m a => opDo_call (args := #[.int .i64 1, .int .i64 3000, .slice (some ⟨(s 2), 0, none⟩) (1) (1)]) rfl rfl (by simp [go_sem, a.e 5 (j 2 rfl).1]) (tr_within_any (1) (3000) _ 1 1 [o.wd] W (ii_block (xs := [o.wd]) (j 2 rfl).2 rfl rfl)) ((fun e W' h => by have h1 := h.1; rw [tr_within_yes (by simp; omega)] at h1; exact ⟨_, h1, h.2, rfl⟩)),
  fun f s W i j k l m a => opv rfl rfl (by simp [go_sem, a.e 6 (j 3 rfl)]) rfl,
  fun f s W i j k l m a => opv rfl rfl (by simp [go_sem, a.e 7 (j 4 rfl)]) rfl,
  fun f s W i j k l m a => osure rfl rfl (a.says (d := 8) rfl rfl (j 5 rfl)) (gv (by simp [go_sem, a.e 1 k1_1]) rfl),
  fun f s W i j k l m a => osure rfl rfl (a.says (d := 8) rfl rfl (j 5 rfl)) (gv (by simp [go_sem, a.e 9 (j 6 rfl), cb br1_0 i 1, cb br1_0 i 2]) rfl),
  fun f s W i j k l m a => osure rfl rfl (a.says (d := 8) rfl rfl (j 5 rfl)) (gc (by simp [go_sem, a.e 10 (j 7 rfl)]) (tr_isSpan_yes (o.lo) (o.hi) (0) (100) W (by omega))),
  fun f s W i j k l m a => osure rfl rfl (a.says (d := 8) rfl rfl (j 5 rfl)) (gv (by simp [go_sem, a.e 11 (j 8 rfl)]) rfl),
  fun f s W i j k l m a => opk (c := false) rfl rfl (fun _ => by simp [go_sem, a.e 8 (j 5 rfl), a.e 12 (j 9 rfl)]) (fun h => absurd h (by decide)),
  fun f s W i j k l m a => opv rfl rfl (by simp [go_sem, a.e 13 (j 10 rfl)]) rfl, trivial⟩ ?_
 intro f2 s2 W2 hB2 g2 hg2
 have fB2 := hB2.f fB1
 have z2 := hB2.below.size
 have b2_0 := hB2.b br1_0
 obtain ⟨r2_2, br2_2⟩ := hB2.is 2
 have lr2_2 := hB2.lr 2 br2_2
 refine hK2 _ _ ?_
 have k2_2 := kt hg2 2 (hB2.is 11)
 refine wp_ret ?_
 refine leave_one (N := 14) (v := .bool false) (.inr rfl) Try.results42 rfl k2_2 ?_
 exact ⟨rfl, fB2⟩
set_option maxRecDepth 100000 in
set_option maxHeartbeats 400000 in
theorem tr_index_no (os : Nat → To) (bo oo no co : Nat) (w : World) (hO : OrdR w bo oo no os) (ho : ∀ i, i < no → ToIn (os i)) (gno : no ≤ 4) :
  Calls Try.prog 61 #[.slice (some ⟨bo, oo, none⟩) (no) (co), .func (.func 42) #[] #[]] w (fun e w' => e = .returned (.int .i64 (-1)) ∧ Below w.heap.size w w') := by
 refine calls_fr Try.func61 Try.ntmps61 rfl rfl fun g hg => ?_
 have k0 : g 0 = .slice (some ⟨bo, oo, none⟩) (no) (co) := hg 0
 have k1 : g 1 = .func (.func 42) #[] #[] := hg 1
 clear hg
 have fB0 : Below w.heap.size w w := Below.refl _ _
 refine wp_seq_k fun K1 hK1 => ?_
 refine region_dk 1 [(4, 0)] [[]] (rel [is (.int .i64 0)])
  ⟨is_k, trivial⟩
  ⟨fun f s W b c d h j a => opv rfl rfl (by simp [go_sem]) rfl, trivial⟩ ?_
 intro f1 s1 W1 hB1 g1 hg1
 have fB1 := hB1.f fB0
 have z1 := hB1.below.size
 refine hK1 _ _ ?_
 have k1_0 := kt hg1 0 k0
 have k1_1 := kt hg1 1 k1
 have k1_4 := kt hg1 4 (hB1.is 0)
 refine wp_seq_k fun K2 hK2 => ?_
 refine wp_seq_k fun K3 hK3 => ?_
 refine region_dk 3 [(6, 0), (7, 1), (8, 2)] [[], [0], []] (rel [is (.slice (some ⟨bo, oo, none⟩) (no) (co)),
   is (.int .i64 ((no : Int))),
   is (.int .i64 0)])
  ⟨is_k, is_k, is_k, trivial⟩
  ⟨fun f s W b c d h j a => opv rfl rfl (by simp [go_sem, a.e 0 k1_0]) rfl,
  fun f s W b c d h j a => opv rfl rfl (by simp [go_sem, a.e 6 (c 0 rfl)]) rfl,
  fun f s W b c d h j a => opv rfl rfl (by simp [go_sem]) rfl, trivial⟩ ?_
 intro f2 s2 W2 hB2 g2 hg2
 have fB2 := hB2.f fB1
 have z2 := hB2.below.size
 refine hK3 _ _ ?_
 have k2_0 := kt hg2 0 k1_0
 have k2_1 := kt hg2 1 k1_1
 have k2_4 := kt hg2 4 k1_4
 have k2_7 := kt hg2 7 (hB2.is 1)
 have k2_8 := kt hg2 8 (hB2.is 2)
 refine wp_block ?_
 refine wp_loop_n (fun m_ a_ W_ => ∃ g_ : Nat → Value, a_ = fr 19 g_ ∧ (∃ k : Nat, m_ = no - k ∧ g_ 0 = .slice (some ⟨bo, oo, none⟩) (no) (co) ∧ g_ 1 = .func (.func 42) #[] #[] ∧ g_ 4 = .int .i64 0 ∧ g_ 7 = .int .i64 ((no : Int)) ∧ g_ 8 = .int .i64 ((k : Int)) ∧ Below w.heap.size w W_ ∧ W2.heap.size ≤ W_.heap.size ∧ (k ≤ no))) ⟨_, g2, rfl, 0, rfl, k2_0, k2_1, k2_4, k2_7, k2_8.trans (by rfl), fB2, Nat.le_refl _, (by omega)⟩ ?_
 rintro _ _ W_1 ⟨g_1, rfl, k, rfl, k_1_0, k_1_1, k_1_4, k_1_7, k_1_8, fB_1, z_1, lk0⟩
 refine wp_seq_k fun K4 hK4 => ?_
 refine region_dk 1 [(9, 0)] [[]] (rel [is (.bool (decide ((k : Int) < (no : Int))))])
  ⟨is_k, trivial⟩
  ⟨fun f s W b c d h j a => opv rfl rfl (by simp [go_sem, a.e 8 k_1_8, a.e 7 k_1_7]) rfl, trivial⟩ ?_
 intro f3 s3 W3 hB3 g3 hg3
 have fB3 := hB3.f fB_1
 have z3 := hB3.below.size
 refine hK4 _ _ ?_
 have k3_0 := kt hg3 0 k_1_0
 have k3_1 := kt hg3 1 k_1_1
 have k3_4 := kt hg3 4 k_1_4
 have k3_7 := kt hg3 7 k_1_7
 have k3_8 := kt hg3 8 k_1_8
 have k3_9 := kt hg3 9 (hB3.is 0)
 refine wp_seq_k fun K5 hK5 => ?_
 refine wp_cond_split (t := decide ((k : Int) < (no : Int))) ((fr_eval rfl).trans k3_9) (fun hc6 => ?_) (fun hc6 => ?_)
 ·
  have hc6' := hc6; try simp only [ba] at hc6'
  have hkn : k < no := by omega
  refine wp_skip ?_
  refine hK5 _ _ ?_
  refine wp_seq_k fun K7 hK7 => ?_
  refine wp_block ?_
  refine wp_seq_k fun K8 hK8 => ?_
  refine region_dk 2 [(10, 0), (5, 1)] [[], [0]] (rel [is (.int .i64 ((k : Int))),
   is (.int .i64 ((k : Int)))])
   ⟨is_k, is_k, trivial⟩
   ⟨fun f s W b c d h j a => opv rfl rfl (by simp [go_sem, a.e 8 k3_8]) rfl,
  fun f s W b c d h j a => opv rfl rfl (by simp [go_sem, a.e 10 (c 0 rfl)]) rfl, trivial⟩ ?_
  intro f4 s4 W4 hB4 g4 hg4
  have fB4 := hB4.f fB3
  have z4 := hB4.below.size
  refine hK8 _ _ ?_
  have k4_0 := kt hg4 0 k3_0
  have k4_1 := kt hg4 1 k3_1
  have k4_4 := kt hg4 4 k3_4
  have k4_7 := kt hg4 7 k3_7
  have k4_8 := kt hg4 8 k3_8
  have k4_5 := kt hg4 5 (hB4.is 1)
  refine wp_seq_k fun K9 hK9 => ?_
  refine region_dk 6 [(11, 0), (12, 1), (13, 2), (14, 3), (15, 4), (16, 5)] [[], [], [], [1, 2], [1, 2, 3], [0, 1, 2, 3, 4]] (rel [is (.func (.func 42) #[] #[]),
   is (.slice (some ⟨bo, oo, none⟩) (no) (co)),
   is (.int .i64 ((k : Int))),
   is (.pointer (some ⟨bo, oo + k * 3, none⟩)),
   is (.agg #[.int .i64 ((os k).wd), .int .i64 ((os k).lo), .int .i64 ((os k).hi)]),
   is (.bool false)])
   ⟨is_k, is_k, is_k, is_k, is_k, is_k, trivial⟩
   ⟨fun f s W b c d h j a => opv rfl rfl (by simp [go_sem, a.e 1 k4_1]) rfl,
  fun f s W b c d h j a => opv rfl rfl (by simp [go_sem, a.e 0 k4_0]) rfl,
  fun f s W b c d h j a => opv rfl rfl (by simp [go_sem, a.e 5 k4_5]) rfl,
  fun f s W b c d h j a => by have li_ := Nat.not_le.2 (show k < no by omega); have li2_ : (k : Int) < (no : Int) := (by omega); exact opv rfl rfl (by simp [go_sem, a.e 12 (c 1 rfl), a.e 13 (c 2 rfl), li_, li2_]) rfl,
  fun f s W b c d h j a => by have l := below_trans fB4 b; have cu_ := (hO.below l).2 k (by omega); have cu0_ : W.cell? ⟨bo, oo + k * 3, none⟩ = some (.int .i64 (os k).wd) := cu_.1; have cu1_ : W.cell? ⟨bo, oo + k * 3 + 1, none⟩ = some (.int .i64 (os k).lo) := cu_.2.1; have cu2_ : W.cell? ⟨bo, oo + k * 3 + 2, none⟩ = some (.int .i64 (os k).hi) := cu_.2.2; exact opv rfl rfl (by simp [go_sem, a.e 14 (c 3 rfl), cu0_, cu1_, cu2_]) rfl,
  fun f s W b c d h j a => opc rfl rfl (by simp [go_sem, a.e 15 (c 4 rfl), a.e 11 (c 0 rfl)]) (tr_open1 (os k) W (ho k (by omega))), trivial⟩ ?_
  intro f5 s5 W5 hB5 g5 hg5
  have fB5 := hB5.f fB4
  have z5 := hB5.below.size
  refine hK9 _ _ ?_
  have k5_0 := kt hg5 0 k4_0
  have k5_1 := kt hg5 1 k4_1
  have k5_4 := kt hg5 4 k4_4
  have k5_7 := kt hg5 7 k4_7
  have k5_8 := kt hg5 8 k4_8
  have k5_5 := kt hg5 5 k4_5
  have k5_16 := kt hg5 16 (hB5.is 5)
  refine wp_cond_false ((fr_eval rfl).trans k5_16) ?_
  refine wp_skip ?_
  refine inBlock_normal ?_
  refine hK7 _ _ ?_
  refine region_dk 2 [(18, 0), (8, 1)] [[], [0]] (rel [is (.int .i64 ((k : Int) + 1)),
   is (.int .i64 ((k : Int) + 1))])
   ⟨is_k, is_k, trivial⟩
   ⟨fun f s W b c d h j a => opv rfl rfl (by simp [go_sem, a.e 8 ((h 1 8 rfl rfl).trans k5_8), IntWalk.i64_in ((k : Int) + 1) (by omega)]) rfl,
  fun f s W b c d h j a => opv rfl rfl (by simp [go_sem, a.e 18 (c 0 rfl)]) rfl, trivial⟩ ?_
  intro f6 s6 W6 hB6 g6 hg6
  have fB6 := hB6.f fB5
  have z6 := hB6.below.size
  refine wpOps_end ?_
  have k6_0 := kt hg6 0 k5_0
  have k6_1 := kt hg6 1 k5_1
  have k6_4 := kt hg6 4 k5_4
  have k6_7 := kt hg6 7 k5_7
  have k6_8 := kt hg6 8 (hB6.is 1)
  refine then_normal ?_
  exact ⟨_, by omega, g6, rfl, k + 1, rfl, k6_0, k6_1, k6_4, k6_7, k6_8.trans (by go_num), fB6, (by omega), (by omega)⟩
 ·
  have hc6' := hc6; try simp only [ba] at hc6'
  refine wp_exit ?_
  refine then_exit ?_
  refine then_exit ?_
  refine inBlock_at ?_
  refine hK2 _ _ ?_
  refine wp_seq_k fun K11 hK11 => ?_
  refine region_dk 1 [(4, 0)] [[]] (rel [is (.int .i64 (-1))])
   ⟨is_k, trivial⟩
   ⟨fun f s W b c d h j a => opv rfl rfl (by simp [go_sem]) rfl, trivial⟩ ?_
  intro f7 s7 W7 hB7 g7 hg7
  have fB7 := hB7.f fB3
  have z7 := hB7.below.size
  refine hK11 _ _ ?_
  have k7_4 := kt hg7 4 (hB7.is 0)
  refine wp_ret ?_
  refine leave_one (N := 19) (v := .int .i64 (-1)) (.inr rfl) Try.results61 rfl k7_4 ?_
  exact ⟨rfl, fB7⟩
set_option maxRecDepth 100000 in
set_option maxHeartbeats 400000 in
theorem tr_contains_no (os : Nat → To) (bo oo no co : Nat) (w : World) (hO : OrdR w bo oo no os) (ho : ∀ i, i < no → ToIn (os i)) (gno : no ≤ 4) :
  Calls Try.prog 44 #[.slice (some ⟨bo, oo, none⟩) (no) (co), .func (.func 42) #[] #[]] w (fun e w' => e = .returned (.bool false) ∧ Below w.heap.size w w') := by
 refine calls_fr Try.func44 Try.ntmps44 rfl rfl fun g hg => ?_
 have k0 : g 0 = .slice (some ⟨bo, oo, none⟩) (no) (co) := hg 0
 have k1 : g 1 = .func (.func 42) #[] #[] := hg 1
 clear hg
 have fB0 : Below w.heap.size w w := Below.refl _ _
 refine wp_seq_k fun K1 hK1 => ?_
 refine region_dk 1 [(4, 0)] [[]] (rel [is (.bool false)])
  ⟨is_k, trivial⟩
  ⟨fun f s W b c d h j a => opv rfl rfl (by simp [go_sem]) rfl, trivial⟩ ?_
 intro f1 s1 W1 hB1 g1 hg1
 have fB1 := hB1.f fB0
 have z1 := hB1.below.size
 refine hK1 _ _ ?_
 have k1_0 := kt hg1 0 k0
 have k1_1 := kt hg1 1 k1
 have k1_4 := kt hg1 4 (hB1.is 0)
 refine wp_seq_k fun K2 hK2 => ?_
 refine region_dk 5 [(5, 0), (6, 1), (7, 2), (8, 3), (4, 4)] [[], [], [0, 1], [0, 1, 2], [0, 1, 2, 3]] (rel [is (.slice (some ⟨bo, oo, none⟩) (no) (co)),
   is (.func (.func 42) #[] #[]),
   is (.int .i64 (-1)),
   is (.bool false),
   is (.bool false)])
  ⟨is_k, is_k, is_k, is_k, is_k, trivial⟩
  ⟨fun f s W b c d h j a => opv rfl rfl (by simp [go_sem, a.e 0 k1_0]) rfl,
  fun f s W b c d h j a => opv rfl rfl (by simp [go_sem, a.e 1 k1_1]) rfl,
  fun f s W b c d h j a => by have k := below_trans fB1 b; exact opc rfl rfl (by simp [go_sem, a.e 5 (c 0 rfl), a.e 6 (c 1 rfl)]) (tr_index_no os bo oo no co W (hO.below k) ho gno),
  fun f s W b c d h j a => opv rfl rfl (by simp [go_sem, a.e 7 (c 2 rfl)]) rfl,
  fun f s W b c d h j a => opv rfl rfl (by simp [go_sem, a.e 8 (c 3 rfl)]) rfl, trivial⟩ ?_
 intro f2 s2 W2 hB2 g2 hg2
 have fB2 := hB2.f fB1
 have z2 := hB2.below.size
 refine hK2 _ _ ?_
 have k2_4 := kt hg2 4 (hB2.is 4)
 refine wp_ret ?_
 refine leave_one (N := 9) (v := .bool false) (.inr rfl) Try.results44 rfl k2_4 ?_
 exact ⟨rfl, fB2⟩
set_option maxRecDepth 100000 in
set_option maxHeartbeats 4000000 in
theorem tr_open (p : Tp) (os : Nat → To) (bo oo no co : Nat) (w : World) (hO : OrdR w bo oo no os) (hp : TpIn p) (ho : ∀ i, i < no → ToIn (os i)) (gno : no ≤ 4) :
  Calls Try.prog 28 #[.agg #[.int .i64 p.wide, .int .i64 p.tlo, .int .i64 p.thi, .int .i64 p.webs], .slice (some ⟨bo, oo, none⟩) (no) (co)] w (fun e w' => e = .returned (.tuple #[.agg #[.int .i64 p.wide, .int .i64 p.tlo, .int .i64 p.thi, .int .i64 p.webs, .slice (some ⟨bo, oo, none⟩) (no) (co)], .int .i64 0]) ∧ Below w.heap.size w w') := by
 have g1_ := hp.wide
 have g2_ := hp.trim
 have g3_ := hp.webs
 have hno_ : decide (4 < (no : Int)) = false := decide_eq_false (by omega)
 refine calls_fr Try.func28 Try.ntmps28 rfl rfl fun g hg => ?_
 have k0 : g 0 = .agg #[.int .i64 p.wide, .int .i64 p.tlo, .int .i64 p.thi, .int .i64 p.webs] := hg 0
 have k1 : g 1 = .slice (some ⟨bo, oo, none⟩) (no) (co) := hg 1
 clear hg
 have fB0 : Below w.heap.size w w := Below.refl _ _
 refine wp_seq_k fun K1 hK1 => ?_
 refine region_dk 3 [(2, 0), (4, 1), (5, 2)] [[], [], []] (rel [bx 0 #[.int .i64 p.wide, .int .i64 p.tlo, .int .i64 p.thi, .int .i64 p.webs] 35,
   bx 1 #[.int .i64 0, .int .i64 0, .int .i64 0, .int .i64 0, .slice (none) (0) (0)] 87,
   is (.int .i64 0)])
  ⟨bx_k, bx_k, is_k, trivial⟩
  ⟨fun f s W c d j k l a => opb rfl rfl (by simp [go_sem, a.e 0 k0]),
  fun f s W c d j k l a => opb rfl rfl (by simp [go_sem]),
  fun f s W c d j k l a => opv rfl rfl (by simp [go_sem]) rfl, trivial⟩ ?_
 intro f1 s1 W1 hB1 g1 hg1
 have fB1 := hB1.f fB0
 have z1 := hB1.below.size
 obtain ⟨r1_0, br1_0⟩ := hB1.is 0
 have lr1_0 := hB1.lr 0 br1_0
 obtain ⟨r1_1, br1_1⟩ := hB1.is 1
 have lr1_1 := hB1.lr 1 br1_1
 have ne1_0_1 := hB1.nb 0 1
 refine hK1 _ _ ?_
 have k1_1 := kt hg1 1 k1
 have k1_2 := kt hg1 2 r1_0
 have k1_4 := kt hg1 4 r1_1
 have k1_5 := kt hg1 5 (hB1.is 2)
 refine wp_seq_k fun K2 hK2 => ?_
 refine region_dk 1 [(6, 0)] [[]] (rel [is (.func (.func 42) #[] #[])])
  ⟨is_k, trivial⟩
  ⟨fun f s W c d j k l a => opv rfl rfl (by simp [go_sem]) rfl, trivial⟩ ?_
 intro f2 s2 W2 hB2 g2 hg2
 have fB2 := hB2.f fB1
 have z2 := hB2.below.size
 have b2_0 := hB2.b br1_0
 have b2_1 := hB2.b br1_1
 refine hK2 _ _ ?_
 have k2_1 := kt hg2 1 k1_1
 have k2_2 := kt hg2 2 k1_2
 have k2_4 := kt hg2 4 k1_4
 have k2_5 := kt hg2 5 k1_5
 have k2_6 := kt hg2 6 (hB2.is 0)
 refine wp_seq_k fun K3 hK3 => ?_
 refine wp_block ?_
 refine wp_seq_k fun K4 hK4 => ?_
 refine wp_seq_k fun K5 hK5 => ?_
 refine region_dk 6 [(8, 0), (9, 1), (10, 2), (11, 3), (12, 4), (7, 5)] [[], [0], [0, 1], [0, 1, 2], [0, 1, 2, 3], [0, 1, 2, 3, 4]] (rel [is (.pointer (some ⟨(s1 0), 0, none⟩)),
   is (.int .i64 p.wide),
   row 2 1 #[.int .i64 p.wide] 3,
   is (.bool true),
   is (.bool false),
   is (.bool false)])
  ⟨is_k, is_k, row_k, is_k, is_k, is_k, trivial⟩
  ⟨fun f s W c d j k l a => opv rfl rfl (by simp [go_sem, a.e 2 k2_2]) rfl,
  fun f s W c d j k l a => opv rfl rfl (by simp [go_sem, a.e 8 (d 0 rfl), cb b2_0 c 0]) rfl,
  fun f s W c d j k l a => opr rfl rfl (by simp [go_sem, a.e 9 (d 1 rfl)]),
  fun f s W c d j k l a => opDo_call (args := #[.int .i64 1, .int .i64 3000, .slice (some ⟨(s 2), 0, none⟩) (1) (1)]) rfl rfl (by simp [go_sem, a.e 10 (d 2 rfl).1]) (tr_within_any (1) (3000) _ 1 1 [p.wide] W (ii_block (xs := [p.wide]) (d 2 rfl).2 rfl rfl)) ((fun e W' h => by have h1 := h.1; rw [tr_within_yes (by simp; omega)] at h1; exact ⟨_, h1, h.2, rfl⟩)),
  fun f s W c d j k l a => opv rfl rfl (by simp [go_sem, a.e 11 (d 3 rfl)]) rfl,
  fun f s W c d j k l a => opv rfl rfl (by simp [go_sem, a.e 12 (d 4 rfl)]) rfl, trivial⟩ ?_
 intro f3 s3 W3 hB3 g3 hg3
 have fB3 := hB3.f fB2
 have z3 := hB3.below.size
 have b3_0 := hB3.b b2_0
 have b3_1 := hB3.b b2_1
 obtain ⟨r3_2, br3_2⟩ := hB3.is 2
 have lr3_2 := hB3.lr 2 br3_2
 refine hK5 _ _ ?_
 have k3_1 := kt hg3 1 k2_1
 have k3_2 := kt hg3 2 k2_2
 have k3_4 := kt hg3 4 k2_4
 have k3_5 := kt hg3 5 k2_5
 have k3_6 := kt hg3 6 k2_6
 have k3_7 := kt hg3 7 (hB3.is 5)
 refine wp_cond_false ((fr_eval rfl).trans k3_7) ?_
 refine wp_seq_k fun K7 hK7 => ?_
 refine region_dk 5 [(13, 0), (14, 1), (15, 2), (16, 3), (7, 4)] [[], [0], [0, 1], [0, 1, 2], [0, 1, 2, 3]] (rel [is (.pointer (some ⟨(s1 0), 1, none⟩)),
   is (.agg #[.int .i64 p.tlo, .int .i64 p.thi]),
   is (.bool true),
   is (.bool false),
   is (.bool false)])
  ⟨is_k, is_k, is_k, is_k, is_k, trivial⟩
  ⟨fun f s W c d j k l a => opv rfl rfl (by simp [go_sem, a.e 2 k3_2]) rfl,
  fun f s W c d j k l a => opv rfl rfl (by simp [go_sem, a.e 13 (d 0 rfl), cb b3_0 c 1, cb b3_0 c 2]) rfl,
  fun f s W c d j k l a => opc rfl rfl (by simp [go_sem, a.e 14 (d 1 rfl)]) (tr_isSpan_yes (p.tlo) (p.thi) (0) (3000) W (by omega)),
  fun f s W c d j k l a => opv rfl rfl (by simp [go_sem, a.e 15 (d 2 rfl)]) rfl,
  fun f s W c d j k l a => opv rfl rfl (by simp [go_sem, a.e 16 (d 3 rfl)]) rfl, trivial⟩ ?_
 intro f4 s4 W4 hB4 g4 hg4
 have fB4 := hB4.f fB3
 have z4 := hB4.below.size
 have b4_0 := hB4.b b3_0
 have b4_1 := hB4.b b3_1
 have b4_2 := hB4.b br3_2
 refine hK7 _ _ ?_
 have k4_1 := kt hg4 1 k3_1
 have k4_2 := kt hg4 2 k3_2
 have k4_4 := kt hg4 4 k3_4
 have k4_5 := kt hg4 5 k3_5
 have k4_6 := kt hg4 6 k3_6
 have k4_7 := kt hg4 7 (hB4.is 4)
 refine wp_cond_false ((fr_eval rfl).trans k4_7) ?_
 refine region_dk 6 [(17, 0), (18, 1), (19, 2), (20, 3), (21, 4), (7, 5)] [[], [0], [0, 1], [0, 1, 2], [0, 1, 2, 3], [0, 1, 2, 3, 4]] (rel [is (.pointer (some ⟨(s1 0), 3, none⟩)),
   is (.int .i64 p.webs),
   row 2 1 #[.int .i64 p.webs] 3,
   is (.bool true),
   is (.bool false),
   is (.bool false)])
  ⟨is_k, is_k, row_k, is_k, is_k, is_k, trivial⟩
  ⟨fun f s W c d j k l a => opv rfl rfl (by simp [go_sem, a.e 2 k4_2]) rfl,
  fun f s W c d j k l a => opv rfl rfl (by simp [go_sem, a.e 17 (d 0 rfl), cb b4_0 c 3]) rfl,
  fun f s W c d j k l a => opr rfl rfl (by simp [go_sem, a.e 18 (d 1 rfl)]),
  fun f s W c d j k l a => opDo_call (args := #[.int .i64 1, .int .i64 4, .slice (some ⟨(s 2), 0, none⟩) (1) (1)]) rfl rfl (by simp [go_sem, a.e 19 (d 2 rfl).1]) (tr_within_any (1) (4) _ 1 1 [p.webs] W (ii_block (xs := [p.webs]) (d 2 rfl).2 rfl rfl)) ((fun e W' h => by have h1 := h.1; rw [tr_within_yes (by simp; omega)] at h1; exact ⟨_, h1, h.2, rfl⟩)),
  fun f s W c d j k l a => opv rfl rfl (by simp [go_sem, a.e 20 (d 3 rfl)]) rfl,
  fun f s W c d j k l a => opv rfl rfl (by simp [go_sem, a.e 21 (d 4 rfl)]) rfl, trivial⟩ ?_
 intro f5 s5 W5 hB5 g5 hg5
 have fB5 := hB5.f fB4
 have z5 := hB5.below.size
 have b5_0 := hB5.b b4_0
 have b5_1 := hB5.b b4_1
 have b5_2 := hB5.b b4_2
 obtain ⟨r5_2, br5_2⟩ := hB5.is 2
 have lr5_2 := hB5.lr 2 br5_2
 refine hK4 _ _ ?_
 have k5_1 := kt hg5 1 k4_1
 have k5_2 := kt hg5 2 k4_2
 have k5_4 := kt hg5 4 k4_4
 have k5_5 := kt hg5 5 k4_5
 have k5_6 := kt hg5 6 k4_6
 have k5_7 := kt hg5 7 (hB5.is 5)
 refine wp_cond_false ((fr_eval rfl).trans k5_7) ?_
 refine wp_seq_k fun K10 hK10 => ?_
 refine region_dk 4 [(24, 0), (25, 1), (26, 2), (23, 3)] [[], [0], [0, 1], [0, 1, 2]] (rel [is (.slice (some ⟨bo, oo, none⟩) (no) (co)),
   is (.int .i64 ((no : Int))),
   is (.bool false),
   is (.bool false)])
  ⟨is_k, is_k, is_k, is_k, trivial⟩
  ⟨fun f s W c d j k l a => opv rfl rfl (by simp [go_sem, a.e 1 k5_1]) rfl,
  fun f s W c d j k l a => opv rfl rfl (by simp [go_sem, a.e 24 (d 0 rfl)]) rfl,
  fun f s W c d j k l a => opv rfl rfl (by simp [go_sem, a.e 25 (d 1 rfl), hno_]) rfl,
  fun f s W c d j k l a => opv rfl rfl (by simp [go_sem, a.e 26 (d 2 rfl)]) rfl, trivial⟩ ?_
 intro f6 s6 W6 hB6 g6 hg6
 have fB6 := hB6.f fB5
 have z6 := hB6.below.size
 have b6_0 := hB6.b b5_0
 have b6_1 := hB6.b b5_1
 have b6_2 := hB6.b b5_2
 have b6_3 := hB6.b br5_2
 refine hK10 _ _ ?_
 have k6_1 := kt hg6 1 k5_1
 have k6_2 := kt hg6 2 k5_2
 have k6_4 := kt hg6 4 k5_4
 have k6_5 := kt hg6 5 k5_5
 have k6_6 := kt hg6 6 k5_6
 have k6_23 := kt hg6 23 (hB6.is 3)
 refine wp_cond_false ((fr_eval rfl).trans k6_23) ?_
 refine wp_seq_k fun K12 hK12 => ?_
 refine region_dk 4 [(29, 0), (30, 1), (31, 2), (28, 3)] [[], [], [0, 1], [0, 1, 2]] (rel [is (.slice (some ⟨bo, oo, none⟩) (no) (co)),
   is (.func (.func 42) #[] #[]),
   is (.bool false),
   is (.bool false)])
  ⟨is_k, is_k, is_k, is_k, trivial⟩
  ⟨fun f s W c d j k l a => opv rfl rfl (by simp [go_sem, a.e 1 k6_1]) rfl,
  fun f s W c d j k l a => opv rfl rfl (by simp [go_sem, a.e 6 k6_6]) rfl,
  fun f s W c d j k l a => by have m := below_trans fB6 c; exact opc rfl rfl (by simp [go_sem, a.e 29 (d 0 rfl), a.e 30 (d 1 rfl)]) (tr_contains_no os bo oo no co W (hO.below m) ho gno),
  fun f s W c d j k l a => opv rfl rfl (by simp [go_sem, a.e 31 (d 2 rfl)]) rfl, trivial⟩ ?_
 intro f7 s7 W7 hB7 g7 hg7
 have fB7 := hB7.f fB6
 have z7 := hB7.below.size
 have b7_0 := hB7.b b6_0
 have b7_1 := hB7.b b6_1
 have b7_2 := hB7.b b6_2
 have b7_3 := hB7.b b6_3
 refine hK12 _ _ ?_
 have k7_1 := kt hg7 1 k6_1
 have k7_2 := kt hg7 2 k6_2
 have k7_4 := kt hg7 4 k6_4
 have k7_5 := kt hg7 5 k6_5
 have k7_28 := kt hg7 28 (hB7.is 3)
 refine wp_cond_false ((fr_eval rfl).trans k7_28) ?_
 refine wp_skip ?_
 refine inBlock_normal ?_
 refine hK3 _ _ ?_
 refine wp_seq_k fun K14 hK14 => ?_
 refine region_dk 3 [(33, 0), (34, 1), (35, 2), (5, 4)] [[], [], [0, 1], [0, 1, 2], [0, 1, 2, 3]] (rel [is (.agg #[.int .i64 p.wide, .int .i64 p.tlo, .int .i64 p.thi, .int .i64 p.webs]),
   is (.slice (some ⟨bo, oo, none⟩) (no) (co)),
   is (.agg #[.int .i64 p.wide, .int .i64 p.tlo, .int .i64 p.thi, .int .i64 p.webs, .slice (some ⟨bo, oo, none⟩) (no) (co)])])
  ⟨is_k, is_k, is_k, trivial⟩
  ⟨fun f s W c d j k l a => opl rfl rfl rfl (a.v 2 k7_2) (blk_below b7_0 c) Try.underlying35 rfl (by kernel_rfl) rfl,
  fun f s W c d j k l a => opv rfl rfl (by simp [go_sem, a.e 1 k7_1]) rfl,
  fun f s W c d j k l a => opv rfl rfl (by simp [go_sem, a.e 33 (d 0 rfl), a.e 34 (d 1 rfl)]) rfl, trivial⟩ ?_
 intro f8 s8 W8 hB8 g8 hg8
 have fB8 := hB8.f fB7
 have z8 := hB8.below.size
 have b8_0 := hB8.b b7_0
 have b8_1 := hB8.b b7_1
 have b8_2 := hB8.b b7_2
 have b8_3 := hB8.b b7_3
 have k8_4 := kt hg8 4 k7_4
 have k8_35 := kt hg8 35 (hB8.is 2)
 obtain ⟨W9, hW9⟩ : ∃ W', W' = W8.setRow (s1 1) #[.int .i64 p.wide, .int .i64 p.tlo, .int .i64 p.thi, .int .i64 p.webs, .slice (some ⟨bo, oo, none⟩) (no) (co)] := ⟨_, rfl⟩
 refine tail_skip (o := _) rfl ⟨rfl, rfl⟩ (run_seg hW9 (fr_ev k8_4) (fr_ev k8_35) b8_1 rfl rfl rfl rfl) ?_
 obtain ⟨fB9, nb9, ot9, z9⟩ := seg_facts hW9 fB8 b8_1 (by omega)
 clear hW9
 have b9_0 := ot9 _ _ (by omega) b8_0
 have b9_2 := ot9 _ _ (by omega) b8_2
 have b9_3 := ot9 _ _ (by omega) b8_3
 refine tail_value (o := _) rfl rfl rfl (v := .int .i64 0) (by simp [go_sem]) ?_
 generalize hg10 : upd g8 5 (.int .i64 0) = g10
 have k10_4 := ku hg10 4 k8_4
 have k10_5 := kt hg10 5 (upd_same _ _ _)
 refine wpOps_end ?_
 refine hK14 _ _ ?_
 refine wp_ret ?_
 refine leave_gen (v := .tuple #[.agg #[.int .i64 p.wide, .int .i64 p.tlo, .int .i64 p.thi, .int .i64 p.webs, .slice (some ⟨bo, oo, none⟩) (no) (co)], .int .i64 0]) (.inr rfl) (by simp [results, Try.results28, go_sem, frv 36 k10_4, cl nb9 0, cl nb9 1, cl nb9 2, cl nb9 3, cl nb9 4, frv 36 k10_5]) ?_
 exact ⟨rfl, fB9⟩
set_option maxRecDepth 100000 in
set_option maxHeartbeats 400000 in
theorem tr_check (p : Tp) (os : Nat → To) (bo oo no co : Nat) (ax : Option Addr) (nx cx : Nat) (xs : List Int) (w : World) (hO : OrdR w bo oo no os) (hp : TpIn p) (ho : ∀ i, i < no → ToIn (os i)) (gno : no ≤ 4) (hX : Ii w ax nx cx xs) (gxs : ∀ x ∈ xs, 0 ≤ x ∧ x ≤ 4) (gnx : nx = no) (hpat : patF p os xs no = true) :
  Calls Try.prog 47 #[.agg #[.int .i64 p.wide, .int .i64 p.tlo, .int .i64 p.thi, .int .i64 p.webs, .slice (some ⟨bo, oo, none⟩) (no) (co)], .slice (ax) (nx) (cx)] w (fun e w' => e = .returned (.int .i64 0) ∧ Below w.heap.size w w') := by
 have hnx_ : ((nx : Int) != (no : Int)) = false := bne_eq_false_iff_eq.2 (by omega)
 refine calls_fr Try.func47 Try.ntmps47 rfl rfl fun g hg => ?_
 have k0 : g 0 = .agg #[.int .i64 p.wide, .int .i64 p.tlo, .int .i64 p.thi, .int .i64 p.webs, .slice (some ⟨bo, oo, none⟩) (no) (co)] := hg 0
 have k1 : g 1 = .slice (ax) (nx) (cx) := hg 1
 clear hg
 have fB0 : Below w.heap.size w w := Below.refl _ _
 refine wp_seq_k fun K1 hK1 => ?_
 refine region_dk 2 [(2, 0), (4, 1)] [[], []] (rel [bx 0 #[.int .i64 p.wide, .int .i64 p.tlo, .int .i64 p.thi, .int .i64 p.webs, .slice (some ⟨bo, oo, none⟩) (no) (co)] 87,
   is (.int .i64 0)])
  ⟨bx_k, is_k, trivial⟩
  ⟨fun f s W c d j k l a => opb rfl rfl (by simp [go_sem, a.e 0 k0]),
  fun f s W c d j k l a => opv rfl rfl (by simp [go_sem]) rfl, trivial⟩ ?_
 intro f1 s1 W1 hB1 g1 hg1
 have fB1 := hB1.f fB0
 have z1 := hB1.below.size
 obtain ⟨r1_0, br1_0⟩ := hB1.is 0
 have lr1_0 := hB1.lr 0 br1_0
 refine hK1 _ _ ?_
 have k1_1 := kt hg1 1 k1
 have k1_2 := kt hg1 2 r1_0
 have k1_4 := kt hg1 4 (hB1.is 1)
 refine wp_seq_k fun K2 hK2 => ?_
 refine wp_block ?_
 refine wp_seq_k fun K3 hK3 => ?_
 refine wp_seq_k fun K4 hK4 => ?_
 refine region_dk 7 [(6, 0), (7, 1), (8, 2), (9, 3), (10, 4), (11, 5), (5, 6)] [[], [0], [], [2], [2, 3], [0, 1, 2, 3, 4], [0, 1, 2, 3, 4, 5]] (rel [is (.slice (ax) (nx) (cx)),
   is (.int .i64 ((nx : Int))),
   is (.pointer (some ⟨(s1 0), 4, none⟩)),
   is (.slice (some ⟨bo, oo, none⟩) (no) (co)),
   is (.int .i64 ((no : Int))),
   is (.bool false),
   is (.bool false)])
  ⟨is_k, is_k, is_k, is_k, is_k, is_k, is_k, trivial⟩
  ⟨fun f s W c d j k l a => opv rfl rfl (by simp [go_sem, a.e 1 k1_1]) rfl,
  fun f s W c d j k l a => opv rfl rfl (by simp [go_sem, a.e 6 (d 0 rfl)]) rfl,
  fun f s W c d j k l a => opv rfl rfl (by simp [go_sem, a.e 2 k1_2]) rfl,
  fun f s W c d j k l a => opv rfl rfl (by simp [go_sem, a.e 8 (d 2 rfl), cb br1_0 c 4]) rfl,
  fun f s W c d j k l a => opv rfl rfl (by simp [go_sem, a.e 9 (d 3 rfl)]) rfl,
  fun f s W c d j k l a => opv rfl rfl (by simp [go_sem, a.e 7 (d 1 rfl), a.e 10 (d 4 rfl), hnx_]) rfl,
  fun f s W c d j k l a => opv rfl rfl (by simp [go_sem, a.e 11 (d 5 rfl)]) rfl, trivial⟩ ?_
 intro f2 s2 W2 hB2 g2 hg2
 have fB2 := hB2.f fB1
 have z2 := hB2.below.size
 have b2_0 := hB2.b br1_0
 refine hK4 _ _ ?_
 have k2_1 := kt hg2 1 k1_1
 have k2_2 := kt hg2 2 k1_2
 have k2_4 := kt hg2 4 k1_4
 have k2_5 := kt hg2 5 (hB2.is 6)
 refine wp_cond_false ((fr_eval rfl).trans k2_5) ?_
 refine region_dk 4 [(12, 0), (13, 1), (14, 2), (5, 3)] [[], [0], [0, 1], [0, 1, 2]] (rel [is (.slice (ax) (nx) (cx)),
   is (.bool true),
   is (.bool false),
   is (.bool false)])
  ⟨is_k, is_k, is_k, is_k, trivial⟩
  ⟨fun f s W c d j k l a => opv rfl rfl (by simp [go_sem, a.e 1 k2_1]) rfl,
  fun f s W c d j k l a => by have m := below_trans fB2 c; exact opDo_call rfl rfl (by simp [go_sem, a.e 12 (d 0 rfl)]) (tr_within_any (0) (4) ax nx cx xs W (hX.below m (Nat.le_refl _))) ((fun e W' h => by have h1 := h.1; rw [tr_within_yes gxs] at h1; exact ⟨_, h1, h.2, rfl⟩)),
  fun f s W c d j k l a => opv rfl rfl (by simp [go_sem, a.e 13 (d 1 rfl)]) rfl,
  fun f s W c d j k l a => opv rfl rfl (by simp [go_sem, a.e 14 (d 2 rfl)]) rfl, trivial⟩ ?_
 intro f3 s3 W3 hB3 g3 hg3
 have fB3 := hB3.f fB2
 have z3 := hB3.below.size
 have b3_0 := hB3.b b2_0
 refine hK3 _ _ ?_
 have k3_1 := kt hg3 1 k2_1
 have k3_2 := kt hg3 2 k2_2
 have k3_4 := kt hg3 4 k2_4
 have k3_5 := kt hg3 5 (hB3.is 3)
 refine wp_cond_false ((fr_eval rfl).trans k3_5) ?_
 refine wp_seq_k fun K7 hK7 => ?_
 refine region_dk 5 [(16, 0), (17, 1), (18, 2), (19, 3), (15, 4)] [[], [], [0, 1], [0, 1, 2], [0, 1, 2, 3]] (rel [is (.agg #[.int .i64 p.wide, .int .i64 p.tlo, .int .i64 p.thi, .int .i64 p.webs, .slice (some ⟨bo, oo, none⟩) (no) (co)]),
   is (.slice (ax) (nx) (cx)),
   is (.bool true),
   is (.bool false),
   is (.bool false)])
  ⟨is_k, is_k, is_k, is_k, is_k, trivial⟩
  ⟨fun f s W c d j k l a => opl rfl rfl rfl (a.v 2 k3_2) (blk_below b3_0 c) Try.underlying87 rfl (by kernel_rfl) rfl,
  fun f s W c d j k l a => opv rfl rfl (by simp [go_sem, a.e 1 k3_1]) rfl,
  fun f s W c d j k l a => by have m := below_trans fB3 c; exact opDo_call rfl rfl (by simp [go_sem, a.e 16 (d 0 rfl), a.e 17 (d 1 rfl)]) (isPattern_any p os bo oo no co ax nx cx xs W (hO.below m) hp ho gno (hX.below m (Nat.le_refl _)) gxs (by omega)) ((fun e W' h => by have h1 := h.1; rw [gnx, hpat] at h1; exact ⟨_, h1, h.2, rfl⟩)),
  fun f s W c d j k l a => opv rfl rfl (by simp [go_sem, a.e 18 (d 2 rfl)]) rfl,
  fun f s W c d j k l a => opv rfl rfl (by simp [go_sem, a.e 19 (d 3 rfl)]) rfl, trivial⟩ ?_
 intro f4 s4 W4 hB4 g4 hg4
 have fB4 := hB4.f fB3
 have z4 := hB4.below.size
 have b4_0 := hB4.b b3_0
 refine hK7 _ _ ?_
 have k4_4 := kt hg4 4 k3_4
 have k4_15 := kt hg4 15 (hB4.is 4)
 refine wp_cond_false ((fr_eval rfl).trans k4_15) ?_
 refine wp_skip ?_
 refine inBlock_normal ?_
 refine hK2 _ _ ?_
 refine wp_seq_k fun K9 hK9 => ?_
 refine region_dk 1 [(4, 0)] [[]] (rel [is (.int .i64 0)])
  ⟨is_k, trivial⟩
  ⟨fun f s W c d j k l a => opv rfl rfl (by simp [go_sem]) rfl, trivial⟩ ?_
 intro f5 s5 W5 hB5 g5 hg5
 have fB5 := hB5.f fB4
 have z5 := hB5.below.size
 have b5_0 := hB5.b b4_0
 refine hK9 _ _ ?_
 have k5_4 := kt hg5 4 (hB5.is 0)
 refine wp_ret ?_
 refine leave_one (N := 20) (v := .int .i64 0) (.inr rfl) Try.results47 rfl k5_4 ?_
 exact ⟨rfl, fB5⟩
set_option maxRecDepth 100000 in
set_option maxHeartbeats 4000000 in
theorem tr_openWebs (p : Tp) (os : Nat → To) (bo oo no co : Nat) (ax : Option Addr) (nx cx : Nat) (xs : List Int) (w : World) (hO : OrdR w bo oo no os) (hp : TpIn p) (ho : ∀ i, i < no → ToIn (os i)) (gno : no ≤ 4) (hX : Ii w ax nx cx xs) (gxs : ∀ x ∈ xs, 0 ≤ x ∧ x ≤ 4) (gnx : nx = no) (hpat : patF p os xs no = true) :
  Calls Try.prog 30 #[.agg #[.int .i64 p.wide, .int .i64 p.tlo, .int .i64 p.thi, .int .i64 p.webs], .slice (some ⟨bo, oo, none⟩) (no) (co), .slice (ax) (nx) (cx)] w (fun e w' => e = .returned (.tuple #[.agg #[.int .i64 p.wide, .int .i64 p.tlo, .int .i64 p.thi, .int .i64 p.webs, .slice (some ⟨bo, oo, none⟩) (no) (co)], .int .i64 0]) ∧ Below w.heap.size w w') := by
 refine calls_fr Try.func30 Try.ntmps30 rfl rfl fun g hg => ?_
 have k0 : g 0 = .agg #[.int .i64 p.wide, .int .i64 p.tlo, .int .i64 p.thi, .int .i64 p.webs] := hg 0
 have k1 : g 1 = .slice (some ⟨bo, oo, none⟩) (no) (co) := hg 1
 have k2 : g 2 = .slice (ax) (nx) (cx) := hg 2
 clear hg
 have fB0 : Below w.heap.size w w := Below.refl _ _
 refine wp_seq_k fun K1 hK1 => ?_
 refine region_dk 3 [(3, 0), (6, 1), (7, 2)] [[], [], []] (rel [bx 0 #[.int .i64 p.wide, .int .i64 p.tlo, .int .i64 p.thi, .int .i64 p.webs] 35,
   bx 1 #[.int .i64 0, .int .i64 0, .int .i64 0, .int .i64 0, .slice (none) (0) (0)] 87,
   is (.int .i64 0)])
  ⟨bx_k, bx_k, is_k, trivial⟩
  ⟨fun f s W c d h j k a => opb rfl rfl (by simp [go_sem, a.e 0 k0]),
  fun f s W c d h j k a => opb rfl rfl (by simp [go_sem]),
  fun f s W c d h j k a => opv rfl rfl (by simp [go_sem]) rfl, trivial⟩ ?_
 intro f1 s1 W1 hB1 g1 hg1
 have fB1 := hB1.f fB0
 have z1 := hB1.below.size
 obtain ⟨r1_0, br1_0⟩ := hB1.is 0
 have lr1_0 := hB1.lr 0 br1_0
 obtain ⟨r1_1, br1_1⟩ := hB1.is 1
 have lr1_1 := hB1.lr 1 br1_1
 have ne1_0_1 := hB1.nb 0 1
 refine hK1 _ _ ?_
 have k1_1 := kt hg1 1 k1
 have k1_2 := kt hg1 2 k2
 have k1_3 := kt hg1 3 r1_0
 have k1_6 := kt hg1 6 r1_1
 have k1_7 := kt hg1 7 (hB1.is 2)
 refine wp_seq_k fun K2 hK2 => ?_
 refine region_dk 7 [(11, 0), (12, 1), (13, 2), (10, 3), (14, 4), (15, 5), (8, 6), (9, 8)] [[], [], [0, 1], [0, 1, 2], [0, 1, 2, 3], [0, 1, 2, 3], [], [0, 1, 2, 3, 4, 6], [0, 1, 2, 3, 4, 5, 6, 7]] (rel [is (.agg #[.int .i64 p.wide, .int .i64 p.tlo, .int .i64 p.thi, .int .i64 p.webs]),
   is (.slice (some ⟨bo, oo, none⟩) (no) (co)),
   is (.tuple #[.agg #[.int .i64 p.wide, .int .i64 p.tlo, .int .i64 p.thi, .int .i64 p.webs, .slice (some ⟨bo, oo, none⟩) (no) (co)], .int .i64 0]),
   is (.tuple #[.agg #[.int .i64 p.wide, .int .i64 p.tlo, .int .i64 p.thi, .int .i64 p.webs, .slice (some ⟨bo, oo, none⟩) (no) (co)], .int .i64 0]),
   is (.agg #[.int .i64 p.wide, .int .i64 p.tlo, .int .i64 p.thi, .int .i64 p.webs, .slice (some ⟨bo, oo, none⟩) (no) (co)]),
   is (.int .i64 0),
   bx 6 #[.int .i64 0, .int .i64 0, .int .i64 0, .int .i64 0, .slice (none) (0) (0)] 87])
  ⟨is_k, is_k, is_k, is_k, is_k, is_k, bx_k, trivial⟩
  ⟨fun f s W c d h j k a => opl rfl rfl rfl (a.v 3 k1_3) (blk_below br1_0 c) Try.underlying35 rfl (by kernel_rfl) rfl,
  fun f s W c d h j k a => opv rfl rfl (by simp [go_sem, a.e 1 k1_1]) rfl,
  fun f s W c d h j k a => by have l := below_trans fB1 c; exact opc rfl rfl (by simp [go_sem, a.e 11 (d 0 rfl), a.e 12 (d 1 rfl)]) (tr_open p os bo oo no co W (hO.below l) hp ho gno),
  fun f s W c d h j k a => opv rfl rfl (by simp [go_sem, a.e 13 (d 2 rfl)]) rfl,
  fun f s W c d h j k a => opv rfl rfl (by simp [go_sem, a.e 10 (d 3 rfl)]) rfl,
  fun f s W c d h j k a => opv rfl rfl (by simp [go_sem, a.e 10 (d 3 rfl)]) rfl,
  fun f s W c d h j k a => opb rfl rfl (by simp [go_sem]), trivial⟩ ?_
 intro f2 s2 W2 hB2 g2 hg2
 have fB2 := hB2.f fB1
 have z2 := hB2.below.size
 have b2_0 := hB2.b br1_0
 have b2_1 := hB2.b br1_1
 obtain ⟨r2_6, br2_6⟩ := hB2.is 6
 have lr2_6 := hB2.lr 6 br2_6
 have k2_2 := kt hg2 2 k1_2
 have k2_6 := kt hg2 6 k1_6
 have k2_7 := kt hg2 7 k1_7
 have k2_14 := kt hg2 14 (hB2.is 4)
 have k2_15 := kt hg2 15 (hB2.is 5)
 have k2_8 := kt hg2 8 r2_6
 obtain ⟨W3, hW3⟩ : ∃ W', W' = W2.setRow (s2 6) #[.int .i64 p.wide, .int .i64 p.tlo, .int .i64 p.thi, .int .i64 p.webs, .slice (some ⟨bo, oo, none⟩) (no) (co)] := ⟨_, rfl⟩
 refine tail_skip (o := _) rfl ⟨rfl, rfl⟩ (run_seg hW3 (fr_ev k2_8) (fr_ev k2_14) br2_6 rfl rfl rfl rfl) ?_
 obtain ⟨fB3, nb3, ot3, z3⟩ := seg_facts hW3 fB2 br2_6 (by omega)
 clear hW3
 have b3_0 := ot3 _ _ (by omega) b2_0
 have b3_1 := ot3 _ _ (by omega) b2_1
 refine tail_value (o := _) rfl rfl rfl (v := .int .i64 0) (by simp [go_sem, frv 23 k2_15]) ?_
 generalize hg4 : upd g2 9 (.int .i64 0) = g4
 have k4_2 := ku hg4 2 k2_2
 have k4_6 := ku hg4 6 k2_6
 have k4_7 := ku hg4 7 k2_7
 have k4_8 := ku hg4 8 k2_8
 have k4_9 := kt hg4 9 (upd_same _ _ _)
 refine wpOps_end ?_
 refine hK2 _ _ ?_
 refine wp_seq_k fun K3 hK3 => ?_
 refine wp_seq_k fun K4 hK4 => ?_
 refine region_dk 2 [(16, 0), (17, 1)] [[], [0]] (rel [is (.int .i64 0),
   is (.bool true)])
  ⟨is_k, is_k, trivial⟩
  ⟨fun f s W c d h j k a => opv rfl rfl (by simp [go_sem, a.e 9 k4_9]) rfl,
  fun f s W c d h j k a => opv rfl rfl (by simp [go_sem, a.e 16 (d 0 rfl)]) rfl, trivial⟩ ?_
 intro f5 s5 W5 hB5 g5 hg5
 have fB5 := hB5.f fB3
 have z5 := hB5.below.size
 have b5_0 := hB5.b b3_0
 have b5_1 := hB5.b b3_1
 have b5_2 := hB5.b nb3
 refine hK4 _ _ ?_
 have k5_2 := kt hg5 2 k4_2
 have k5_6 := kt hg5 6 k4_6
 have k5_7 := kt hg5 7 k4_7
 have k5_8 := kt hg5 8 k4_8
 have k5_9 := kt hg5 9 k4_9
 have k5_17 := kt hg5 17 (hB5.is 1)
 refine wp_cond_true ((fr_eval rfl).trans k5_17) ?_
 refine region_dk 4 [(18, 0), (19, 1), (20, 2), (9, 3)] [[], [], [0, 1], [0, 1, 2]] (rel [is (.agg #[.int .i64 p.wide, .int .i64 p.tlo, .int .i64 p.thi, .int .i64 p.webs, .slice (some ⟨bo, oo, none⟩) (no) (co)]),
   is (.slice (ax) (nx) (cx)),
   is (.int .i64 0),
   is (.int .i64 0)])
  ⟨is_k, is_k, is_k, is_k, trivial⟩
  ⟨fun f s W c d h j k a => opl rfl rfl rfl (a.v 8 k5_8) (blk_below b5_2 c) Try.underlying87 rfl (by kernel_rfl) rfl,
  fun f s W c d h j k a => opv rfl rfl (by simp [go_sem, a.e 2 k5_2]) rfl,
  fun f s W c d h j k a => by have l := below_trans fB5 c; exact opc rfl rfl (by simp [go_sem, a.e 18 (d 0 rfl), a.e 19 (d 1 rfl)]) (tr_check p os bo oo no co ax nx cx xs W (hO.below l) hp ho gno (hX.below l (Nat.le_refl _)) gxs gnx hpat),
  fun f s W c d h j k a => opv rfl rfl (by simp [go_sem, a.e 20 (d 2 rfl)]) rfl, trivial⟩ ?_
 intro f6 s6 W6 hB6 g6 hg6
 have fB6 := hB6.f fB5
 have z6 := hB6.below.size
 have b6_0 := hB6.b b5_0
 have b6_1 := hB6.b b5_1
 have b6_2 := hB6.b b5_2
 refine hK3 _ _ ?_
 have k6_6 := kt hg6 6 k5_6
 have k6_7 := kt hg6 7 k5_7
 have k6_8 := kt hg6 8 k5_8
 have k6_9 := kt hg6 9 (hB6.is 3)
 refine wp_seq_k fun K6 hK6 => ?_
 refine region_dk 2 [(21, 0), (22, 1), (7, 3)] [[], [], [0], [0, 1, 2]] (rel [is (.agg #[.int .i64 p.wide, .int .i64 p.tlo, .int .i64 p.thi, .int .i64 p.webs, .slice (some ⟨bo, oo, none⟩) (no) (co)]),
   is (.int .i64 0)])
  ⟨is_k, is_k, trivial⟩
  ⟨fun f s W c d h j k a => opl rfl rfl rfl (a.v 8 k6_8) (blk_below b6_2 c) Try.underlying87 rfl (by kernel_rfl) rfl,
  fun f s W c d h j k a => opv rfl rfl (by simp [go_sem, a.e 9 k6_9]) rfl, trivial⟩ ?_
 intro f7 s7 W7 hB7 g7 hg7
 have fB7 := hB7.f fB6
 have z7 := hB7.below.size
 have b7_0 := hB7.b b6_0
 have b7_1 := hB7.b b6_1
 have b7_2 := hB7.b b6_2
 have k7_6 := kt hg7 6 k6_6
 have k7_21 := kt hg7 21 (hB7.is 0)
 have k7_22 := kt hg7 22 (hB7.is 1)
 obtain ⟨W8, hW8⟩ : ∃ W', W' = W7.setRow (s1 1) #[.int .i64 p.wide, .int .i64 p.tlo, .int .i64 p.thi, .int .i64 p.webs, .slice (some ⟨bo, oo, none⟩) (no) (co)] := ⟨_, rfl⟩
 refine tail_skip (o := _) rfl ⟨rfl, rfl⟩ (run_seg hW8 (fr_ev k7_6) (fr_ev k7_21) b7_1 rfl rfl rfl rfl) ?_
 obtain ⟨fB8, nb8, ot8, z8⟩ := seg_facts hW8 fB7 b7_1 (by omega)
 clear hW8
 have b8_0 := ot8 _ _ (by omega) b7_0
 have b8_2 := ot8 _ _ (by omega) b7_2
 refine tail_value (o := _) rfl rfl rfl (v := .int .i64 0) (by simp [go_sem, frv 23 k7_22]) ?_
 generalize hg9 : upd g7 7 (.int .i64 0) = g9
 have k9_6 := ku hg9 6 k7_6
 have k9_7 := kt hg9 7 (upd_same _ _ _)
 refine wpOps_end ?_
 refine hK6 _ _ ?_
 refine wp_ret ?_
 refine leave_gen (v := .tuple #[.agg #[.int .i64 p.wide, .int .i64 p.tlo, .int .i64 p.thi, .int .i64 p.webs, .slice (some ⟨bo, oo, none⟩) (no) (co)], .int .i64 0]) (.inr rfl) (by simp [results, Try.results30, go_sem, frv 23 k9_6, cl nb8 0, cl nb8 1, cl nb8 2, cl nb8 3, cl nb8 4, frv 23 k9_7]) ?_
 exact ⟨rfl, fB8⟩
set_option maxRecDepth 100000 in
set_option maxHeartbeats 4000000 in
theorem tr_Trim (p : Tp) (os : Nat → To) (bo oo no co : Nat) (ax : Option Addr) (nx cx : Nat) (xs : List Int) (w : World) (hO : OrdR w bo oo no os) (hp : TpIn p) (ho : ∀ i, i < no → ToIn (os i)) (gno : no ≤ 4) (hX : Ii w ax nx cx xs) (gxs : ∀ x ∈ xs, 0 ≤ x ∧ x ≤ 4) (gnx : nx = no) (hpat : patF p os xs no = true) :
  Calls Try.prog 13 #[.agg #[.int .i64 p.wide, .int .i64 p.tlo, .int .i64 p.thi, .int .i64 p.webs], .slice (some ⟨bo, oo, none⟩) (no) (co), .slice (ax) (nx) (cx)] w (fun e w' => e = .returned (.tuple #[.int .i64 ((leftF p os xs no)), .int .i64 0]) ∧ Below w.heap.size w w') := by
 refine calls_fr Try.func13 Try.ntmps13 rfl rfl fun g hg => ?_
 have k0 : g 0 = .agg #[.int .i64 p.wide, .int .i64 p.tlo, .int .i64 p.thi, .int .i64 p.webs] := hg 0
 have k1 : g 1 = .slice (some ⟨bo, oo, none⟩) (no) (co) := hg 1
 have k2 : g 2 = .slice (ax) (nx) (cx) := hg 2
 clear hg
 have fB0 : Below w.heap.size w w := Below.refl _ _
 refine wp_seq_k fun K1 hK1 => ?_
 refine region_dk 3 [(3, 0), (6, 1), (7, 2)] [[], [], [1]] (rel [bx 0 #[.int .i64 p.wide, .int .i64 p.tlo, .int .i64 p.thi, .int .i64 p.webs] 35,
   is (.int .i64 0),
   is (.int .i64 0)])
  ⟨bx_k, is_k, is_k, trivial⟩
  ⟨fun f s W c d j k l a => opb rfl rfl (by simp [go_sem, a.e 0 k0]),
  fun f s W c d j k l a => opv rfl rfl (by simp [go_sem]) rfl,
  fun f s W c d j k l a => opv rfl rfl (by simp [go_sem]) rfl, trivial⟩ ?_
 intro f1 s1 W1 hB1 g1 hg1
 have fB1 := hB1.f fB0
 have z1 := hB1.below.size
 obtain ⟨r1_0, br1_0⟩ := hB1.is 0
 have lr1_0 := hB1.lr 0 br1_0
 refine hK1 _ _ ?_
 have k1_1 := kt hg1 1 k1
 have k1_2 := kt hg1 2 k2
 have k1_3 := kt hg1 3 r1_0
 have k1_6 := kt hg1 6 (hB1.is 1)
 have k1_7 := kt hg1 7 (hB1.is 2)
 refine wp_seq_k fun K2 hK2 => ?_
 refine region_dk 8 [(11, 0), (12, 1), (13, 2), (14, 3), (10, 4), (15, 5), (16, 6), (8, 7), (9, 9)] [[], [], [], [0, 1, 2], [0, 1, 2, 3], [0, 1, 2, 3, 4], [0, 1, 2, 3, 4], [], [0, 1, 2, 3, 4, 5, 7], [0, 1, 2, 3, 4, 5, 6, 7, 8]] (rel [is (.agg #[.int .i64 p.wide, .int .i64 p.tlo, .int .i64 p.thi, .int .i64 p.webs]),
   is (.slice (some ⟨bo, oo, none⟩) (no) (co)),
   is (.slice (ax) (nx) (cx)),
   is (.tuple #[.agg #[.int .i64 p.wide, .int .i64 p.tlo, .int .i64 p.thi, .int .i64 p.webs, .slice (some ⟨bo, oo, none⟩) (no) (co)], .int .i64 0]),
   is (.tuple #[.agg #[.int .i64 p.wide, .int .i64 p.tlo, .int .i64 p.thi, .int .i64 p.webs, .slice (some ⟨bo, oo, none⟩) (no) (co)], .int .i64 0]),
   is (.agg #[.int .i64 p.wide, .int .i64 p.tlo, .int .i64 p.thi, .int .i64 p.webs, .slice (some ⟨bo, oo, none⟩) (no) (co)]),
   is (.int .i64 0),
   bx 7 #[.int .i64 0, .int .i64 0, .int .i64 0, .int .i64 0, .slice (none) (0) (0)] 87])
  ⟨is_k, is_k, is_k, is_k, is_k, is_k, is_k, bx_k, trivial⟩
  ⟨fun f s W c d j k l a => opl rfl rfl rfl (a.v 3 k1_3) (blk_below br1_0 c) Try.underlying35 rfl (by kernel_rfl) rfl,
  fun f s W c d j k l a => opv rfl rfl (by simp [go_sem, a.e 1 k1_1]) rfl,
  fun f s W c d j k l a => opv rfl rfl (by simp [go_sem, a.e 2 k1_2]) rfl,
  fun f s W c d j k l a => by have m := below_trans fB1 c; exact opc rfl rfl (by simp [go_sem, a.e 11 (d 0 rfl), a.e 12 (d 1 rfl), a.e 13 (d 2 rfl)]) (tr_openWebs p os bo oo no co ax nx cx xs W (hO.below m) hp ho gno (hX.below m (Nat.le_refl _)) gxs gnx hpat),
  fun f s W c d j k l a => opv rfl rfl (by simp [go_sem, a.e 14 (d 3 rfl)]) rfl,
  fun f s W c d j k l a => opv rfl rfl (by simp [go_sem, a.e 10 (d 4 rfl)]) rfl,
  fun f s W c d j k l a => opv rfl rfl (by simp [go_sem, a.e 10 (d 4 rfl)]) rfl,
  fun f s W c d j k l a => opb rfl rfl (by simp [go_sem]), trivial⟩ ?_
 intro f2 s2 W2 hB2 g2 hg2
 have fB2 := hB2.f fB1
 have z2 := hB2.below.size
 have b2_0 := hB2.b br1_0
 obtain ⟨r2_7, br2_7⟩ := hB2.is 7
 have lr2_7 := hB2.lr 7 br2_7
 have k2_2 := kt hg2 2 k1_2
 have k2_6 := kt hg2 6 k1_6
 have k2_7 := kt hg2 7 k1_7
 have k2_15 := kt hg2 15 (hB2.is 5)
 have k2_16 := kt hg2 16 (hB2.is 6)
 have k2_8 := kt hg2 8 r2_7
 obtain ⟨W3, hW3⟩ : ∃ W', W' = W2.setRow (s2 7) #[.int .i64 p.wide, .int .i64 p.tlo, .int .i64 p.thi, .int .i64 p.webs, .slice (some ⟨bo, oo, none⟩) (no) (co)] := ⟨_, rfl⟩
 refine tail_skip (o := _) rfl ⟨rfl, rfl⟩ (run_seg hW3 (fr_ev k2_8) (fr_ev k2_15) br2_7 rfl rfl rfl rfl) ?_
 obtain ⟨fB3, nb3, ot3, z3⟩ := seg_facts hW3 fB2 br2_7 (by omega)
 clear hW3
 have b3_0 := ot3 _ _ (by omega) b2_0
 refine tail_value (o := _) rfl rfl rfl (v := .int .i64 0) (by simp [go_sem, frv 23 k2_16]) ?_
 generalize hg4 : upd g2 9 (.int .i64 0) = g4
 have k4_2 := ku hg4 2 k2_2
 have k4_6 := ku hg4 6 k2_6
 have k4_7 := ku hg4 7 k2_7
 have k4_8 := ku hg4 8 k2_8
 have k4_9 := kt hg4 9 (upd_same _ _ _)
 refine wpOps_end ?_
 refine hK2 _ _ ?_
 refine wp_seq_k fun K3 hK3 => ?_
 refine wp_seq_k fun K4 hK4 => ?_
 refine region_dk 2 [(17, 0), (18, 1)] [[], [0]] (rel [is (.int .i64 0),
   is (.bool false)])
  ⟨is_k, is_k, trivial⟩
  ⟨fun f s W c d j k l a => opv rfl rfl (by simp [go_sem, a.e 9 k4_9]) rfl,
  fun f s W c d j k l a => opv rfl rfl (by simp [go_sem, a.e 17 (d 0 rfl)]) rfl, trivial⟩ ?_
 intro f5 s5 W5 hB5 g5 hg5
 have fB5 := hB5.f fB3
 have z5 := hB5.below.size
 have b5_0 := hB5.b b3_0
 have b5_1 := hB5.b nb3
 refine hK4 _ _ ?_
 have k5_2 := kt hg5 2 k4_2
 have k5_6 := kt hg5 6 k4_6
 have k5_7 := kt hg5 7 k4_7
 have k5_8 := kt hg5 8 k4_8
 have k5_9 := kt hg5 9 k4_9
 have k5_18 := kt hg5 18 (hB5.is 1)
 refine wp_cond_false ((fr_eval rfl).trans k5_18) ?_
 refine wp_skip ?_
 refine hK3 _ _ ?_
 refine wp_seq_k fun K6 hK6 => ?_
 refine region_dk 5 [(20, 0), (21, 1), (22, 2), (6, 3), (7, 4)] [[], [], [0, 1], [0, 1, 2], [0, 1, 2, 3]] (rel [is (.agg #[.int .i64 p.wide, .int .i64 p.tlo, .int .i64 p.thi, .int .i64 p.webs, .slice (some ⟨bo, oo, none⟩) (no) (co)]),
   is (.slice (ax) (nx) (cx)),
   is (.int .i64 ((leftF p os xs no))),
   is (.int .i64 ((leftF p os xs no))),
   is (.int .i64 0)])
  ⟨is_k, is_k, is_k, is_k, is_k, trivial⟩
  ⟨fun f s W c d j k l a => opl rfl rfl rfl (a.v 8 k5_8) (blk_below b5_1 c) Try.underlying87 rfl (by kernel_rfl) rfl,
  fun f s W c d j k l a => opv rfl rfl (by simp [go_sem, a.e 2 k5_2]) rfl,
  fun f s W c d j k l a => by have m := below_trans fB5 c; exact opDo_call rfl rfl (by simp [go_sem, a.e 20 (d 0 rfl), a.e 21 (d 1 rfl)]) (trim_any p os bo oo no co ax nx cx xs W (hO.below m) hp ho gno (hX.below m (Nat.le_refl _)) gxs (by omega)) ((fun e W' h => by have h1 := h.1; rw [gnx] at h1; exact ⟨_, h1, h.2, rfl⟩)),
  fun f s W c d j k l a => opv rfl rfl (by simp [go_sem, a.e 22 (d 2 rfl)]) rfl,
  fun f s W c d j k l a => opv rfl rfl (by simp [go_sem]) rfl, trivial⟩ ?_
 intro f6 s6 W6 hB6 g6 hg6
 have fB6 := hB6.f fB5
 have z6 := hB6.below.size
 have b6_0 := hB6.b b5_0
 have b6_1 := hB6.b b5_1
 refine hK6 _ _ ?_
 have k6_6 := kt hg6 6 (hB6.is 3)
 have k6_7 := kt hg6 7 (hB6.is 4)
 refine wp_ret ?_
 refine leave_gen (v := .tuple #[.int .i64 ((leftF p os xs no)), .int .i64 0]) (.inr rfl) (by simp [results, Try.results13, go_sem, frv 23 k6_6, frv 23 k6_7]) ?_
 exact ⟨rfl, fB6⟩
theorem div_le_ {a b : Int} (ha : 0 ≤ a) (hb : 1 ≤ b) : 0 ≤ a / b ∧ a / b ≤ a := ⟨Int.ediv_nonneg ha (by omega), Int.ediv_le_self _ ha⟩
set_option maxRecDepth 100000 in
set_option maxHeartbeats 4000000 in
theorem tr_Sheets (ln rn fo : Int) (w : World) (gln : 100 ≤ ln ∧ ln ≤ 5000) (grn : 0 ≤ rn ∧ rn ≤ 30) (gfo : 0 ≤ fo ∧ fo ≤ 20) :
  Calls Try.prog 23 #[.int .i64 ln, .int .i64 rn, .int .i64 fo] w (fun e w' => e = .returned (.tuple #[.agg #[.int .i64 (((rn * 100000) / (ln + fo))), .int .i64 (((rn * 100000) / (ln - fo)))], .int .i64 0]) ∧ Below w.heap.size w w') := by
 refine calls_fr Try.func23 Try.ntmps23 rfl rfl fun g hg => ?_
 have k0 : g 0 = .int .i64 ln := hg 0
 have k1 : g 1 = .int .i64 rn := hg 1
 have k2 : g 2 = .int .i64 fo := hg 2
 clear hg
 have fB0 : Below w.heap.size w w := Below.refl _ _
 refine wp_seq_k fun K1 hK1 => ?_
 refine region_dk 2 [(6, 0), (7, 1)] [[], []] (rel [bx 0 #[.int .i64 0, .int .i64 0] 33,
   is (.int .i64 0)])
  ⟨bx_k, is_k, trivial⟩
  ⟨fun f s W d i j k l c => opb rfl rfl (by simp [go_sem]),
  fun f s W d i j k l c => opv rfl rfl (by simp [go_sem]) rfl, trivial⟩ ?_
 intro f1 s1 W1 hB1 g1 hg1
 have fB1 := hB1.f fB0
 have z1 := hB1.below.size
 obtain ⟨r1_0, br1_0⟩ := hB1.is 0
 have lr1_0 := hB1.lr 0 br1_0
 refine hK1 _ _ ?_
 have k1_0 := kt hg1 0 k0
 have k1_1 := kt hg1 1 k1
 have k1_2 := kt hg1 2 k2
 have k1_6 := kt hg1 6 r1_0
 have k1_7 := kt hg1 7 (hB1.is 1)
 refine wp_seq_k fun K2 hK2 => ?_
 refine wp_block ?_
 refine wp_seq_k fun K3 hK3 => ?_
 refine region_dk 5 [(9, 0), (10, 1), (11, 2), (12, 3), (8, 4)] [[], [0], [0, 1], [0, 1, 2], [0, 1, 2, 3]] (rel [is (.int .i64 ln),
   row 1 1 #[.int .i64 ln] 3,
   is (.bool true),
   is (.bool false),
   is (.bool false)])
  ⟨is_k, row_k, is_k, is_k, is_k, trivial⟩
  ⟨fun f s W d i j k l c => opv rfl rfl (by simp [go_sem, c.e 0 k1_0]) rfl,
  fun f s W d i j k l c => opr rfl rfl (by simp [go_sem, c.e 9 (i 0 rfl)]),
  fun f s W d i j k l c => opDo_call (args := #[.int .i64 100, .int .i64 5000, .slice (some ⟨(s 1), 0, none⟩) (1) (1)]) rfl rfl (by simp [go_sem, c.e 10 (i 1 rfl).1]) (tr_within_any (100) (5000) _ 1 1 [ln] W (ii_block (xs := [ln]) (i 1 rfl).2 rfl rfl)) ((fun e W' h => by have h1 := h.1; rw [tr_within_yes (by simp; omega)] at h1; exact ⟨_, h1, h.2, rfl⟩)),
  fun f s W d i j k l c => opv rfl rfl (by simp [go_sem, c.e 11 (i 2 rfl)]) rfl,
  fun f s W d i j k l c => opv rfl rfl (by simp [go_sem, c.e 12 (i 3 rfl)]) rfl, trivial⟩ ?_
 intro f2 s2 W2 hB2 g2 hg2
 have fB2 := hB2.f fB1
 have z2 := hB2.below.size
 have b2_0 := hB2.b br1_0
 obtain ⟨r2_1, br2_1⟩ := hB2.is 1
 have lr2_1 := hB2.lr 1 br2_1
 refine hK3 _ _ ?_
 have k2_0 := kt hg2 0 k1_0
 have k2_1 := kt hg2 1 k1_1
 have k2_2 := kt hg2 2 k1_2
 have k2_6 := kt hg2 6 k1_6
 have k2_7 := kt hg2 7 k1_7
 have k2_8 := kt hg2 8 (hB2.is 4)
 refine wp_cond_false ((fr_eval rfl).trans k2_8) ?_
 refine wp_seq_k fun K5 hK5 => ?_
 refine wp_seq_k fun K6 hK6 => ?_
 refine region_dk 5 [(15, 0), (16, 1), (17, 2), (18, 3), (14, 4)] [[], [0], [0, 1], [0, 1, 2], [0, 1, 2, 3]] (rel [is (.int .i64 rn),
   row 1 1 #[.int .i64 rn] 3,
   is (.bool true),
   is (.bool false),
   is (.bool false)])
  ⟨is_k, row_k, is_k, is_k, is_k, trivial⟩
  ⟨fun f s W d i j k l c => opv rfl rfl (by simp [go_sem, c.e 1 k2_1]) rfl,
  fun f s W d i j k l c => opr rfl rfl (by simp [go_sem, c.e 15 (i 0 rfl)]),
  fun f s W d i j k l c => opDo_call (args := #[.int .i64 0, .int .i64 30, .slice (some ⟨(s 1), 0, none⟩) (1) (1)]) rfl rfl (by simp [go_sem, c.e 16 (i 1 rfl).1]) (tr_within_any (0) (30) _ 1 1 [rn] W (ii_block (xs := [rn]) (i 1 rfl).2 rfl rfl)) ((fun e W' h => by have h1 := h.1; rw [tr_within_yes (by simp; omega)] at h1; exact ⟨_, h1, h.2, rfl⟩)),
  fun f s W d i j k l c => opv rfl rfl (by simp [go_sem, c.e 17 (i 2 rfl)]) rfl,
  fun f s W d i j k l c => opv rfl rfl (by simp [go_sem, c.e 18 (i 3 rfl)]) rfl, trivial⟩ ?_
 intro f3 s3 W3 hB3 g3 hg3
 have fB3 := hB3.f fB2
 have z3 := hB3.below.size
 have b3_0 := hB3.b b2_0
 have b3_1 := hB3.b br2_1
 obtain ⟨r3_1, br3_1⟩ := hB3.is 1
 have lr3_1 := hB3.lr 1 br3_1
 refine hK6 _ _ ?_
 have k3_0 := kt hg3 0 k2_0
 have k3_1 := kt hg3 1 k2_1
 have k3_2 := kt hg3 2 k2_2
 have k3_6 := kt hg3 6 k2_6
 have k3_7 := kt hg3 7 k2_7
 have k3_14 := kt hg3 14 (hB3.is 4)
 refine wp_cond_false ((fr_eval rfl).trans k3_14) ?_
 refine region_dk 5 [(19, 0), (20, 1), (21, 2), (22, 3), (14, 4)] [[], [0], [0, 1], [0, 1, 2], [0, 1, 2, 3]] (rel [is (.int .i64 fo),
   row 1 1 #[.int .i64 fo] 3,
   is (.bool true),
   is (.bool false),
   is (.bool false)])
  ⟨is_k, row_k, is_k, is_k, is_k, trivial⟩
  ⟨fun f s W d i j k l c => opv rfl rfl (by simp [go_sem, c.e 2 k3_2]) rfl,
  fun f s W d i j k l c => opr rfl rfl (by simp [go_sem, c.e 19 (i 0 rfl)]),
  fun f s W d i j k l c => opDo_call (args := #[.int .i64 0, .int .i64 20, .slice (some ⟨(s 1), 0, none⟩) (1) (1)]) rfl rfl (by simp [go_sem, c.e 20 (i 1 rfl).1]) (tr_within_any (0) (20) _ 1 1 [fo] W (ii_block (xs := [fo]) (i 1 rfl).2 rfl rfl)) ((fun e W' h => by have h1 := h.1; rw [tr_within_yes (by simp; omega)] at h1; exact ⟨_, h1, h.2, rfl⟩)),
  fun f s W d i j k l c => opv rfl rfl (by simp [go_sem, c.e 21 (i 2 rfl)]) rfl,
  fun f s W d i j k l c => opv rfl rfl (by simp [go_sem, c.e 22 (i 3 rfl)]) rfl, trivial⟩ ?_
 intro f4 s4 W4 hB4 g4 hg4
 have fB4 := hB4.f fB3
 have z4 := hB4.below.size
 have b4_0 := hB4.b b3_0
 have b4_1 := hB4.b b3_1
 have b4_2 := hB4.b br3_1
 obtain ⟨r4_1, br4_1⟩ := hB4.is 1
 have lr4_1 := hB4.lr 1 br4_1
 refine hK5 _ _ ?_
 have k4_0 := kt hg4 0 k3_0
 have k4_1 := kt hg4 1 k3_1
 have k4_2 := kt hg4 2 k3_2
 have k4_6 := kt hg4 6 k3_6
 have k4_7 := kt hg4 7 k3_7
 have k4_14 := kt hg4 14 (hB4.is 4)
 refine wp_cond_false ((fr_eval rfl).trans k4_14) ?_
 refine wp_skip ?_
 refine inBlock_normal ?_
 refine hK2 _ _ ?_
 refine wp_seq_k fun K9 hK9 => ?_
 refine region_dk 13 [(24, 0), (25, 1), (26, 2), (27, 3), (28, 4), (29, 5), (30, 6), (31, 7), (32, 8), (33, 9), (34, 10), (35, 11), (36, 12), (7, 14)] [[], [0], [], [], [2, 3], [0, 1, 2, 3, 4], [], [6], [], [], [8, 9], [6, 7, 8, 9, 10], [0, 1, 2, 3, 4, 5, 6, 7, 8, 9, 10, 11], [0, 1, 2, 3, 4, 5, 6, 7, 8, 9, 10, 11, 12], [0, 1, 2, 3, 4, 5, 6, 7, 8, 9, 10, 11, 12, 13]] (rel [is (.int .i64 rn),
   is (.int .i64 (rn * 100000)),
   is (.int .i64 ln),
   is (.int .i64 fo),
   is (.int .i64 (ln + fo)),
   is (.int .i64 ((rn * 100000 / (ln + fo)))),
   is (.int .i64 rn),
   is (.int .i64 (rn * 100000)),
   is (.int .i64 ln),
   is (.int .i64 fo),
   is (.int .i64 (ln - fo)),
   is (.int .i64 ((rn * 100000 / (ln - fo)))),
   is (.agg #[.int .i64 ((rn * 100000 / (ln + fo))), .int .i64 ((rn * 100000 / (ln - fo)))])])
  ⟨is_k, is_k, is_k, is_k, is_k, is_k, is_k, is_k, is_k, is_k, is_k, is_k, is_k, trivial⟩
  ⟨fun f s W d i j k l c => opv rfl rfl (by simp [go_sem, c.e 1 k4_1]) rfl,
  fun f s W d i j k l c => opv rfl rfl (by simp [go_sem, c.e 24 (i 0 rfl), IntWalk.i64_in (rn * 100000) (by omega)]) rfl,
  fun f s W d i j k l c => opv rfl rfl (by simp [go_sem, c.e 0 k4_0]) rfl,
  fun f s W d i j k l c => opv rfl rfl (by simp [go_sem, c.e 2 k4_2]) rfl,
  fun f s W d i j k l c => opv rfl rfl (by simp [go_sem, c.e 26 (i 2 rfl), c.e 27 (i 3 rfl), IntWalk.i64_in (ln + fo) (by omega)]) rfl,
  fun f s W d i j k l c => by have qu_ : (rn * 100000).tdiv (ln + fo) = (rn * 100000 / (ln + fo)) := Int.tdiv_eq_ediv_of_nonneg (by omega); have qe_ := div_le_ (a := rn * 100000) (b := ln + fo) (by omega) (by omega); have qw_ := IntWalk.i64_in (rn * 100000 / (ln + fo)) (by omega); have qz_ : ¬ ln + fo = 0 := (by omega); exact opv rfl rfl (by simp [go_sem, c.e 25 (i 1 rfl), c.e 28 (i 4 rfl), qu_, qw_, qz_]) rfl,
  fun f s W d i j k l c => opv rfl rfl (by simp [go_sem, c.e 1 k4_1]) rfl,
  fun f s W d i j k l c => opv rfl rfl (by simp [go_sem, c.e 30 (i 6 rfl), IntWalk.i64_in (rn * 100000) (by omega)]) rfl,
  fun f s W d i j k l c => opv rfl rfl (by simp [go_sem, c.e 0 k4_0]) rfl,
  fun f s W d i j k l c => opv rfl rfl (by simp [go_sem, c.e 2 k4_2]) rfl,
  fun f s W d i j k l c => opv rfl rfl (by simp [go_sem, c.e 32 (i 8 rfl), c.e 33 (i 9 rfl), IntWalk.i64_in (ln - fo) (by omega)]) rfl,
  fun f s W d i j k l c => by have qu_ : (rn * 100000).tdiv (ln - fo) = (rn * 100000 / (ln - fo)) := Int.tdiv_eq_ediv_of_nonneg (by omega); have qe_ := div_le_ (a := rn * 100000) (b := ln - fo) (by omega) (by omega); have qw_ := IntWalk.i64_in (rn * 100000 / (ln - fo)) (by omega); have qz_ : ¬ ln - fo = 0 := (by omega); exact opv rfl rfl (by simp [go_sem, c.e 31 (i 7 rfl), c.e 34 (i 10 rfl), qu_, qw_, qz_]) rfl,
  fun f s W d i j k l c => opv rfl rfl (by simp [go_sem, c.e 29 (i 5 rfl), c.e 35 (i 11 rfl)]) rfl, trivial⟩ ?_
 intro f5 s5 W5 hB5 g5 hg5
 have fB5 := hB5.f fB4
 have z5 := hB5.below.size
 have b5_0 := hB5.b b4_0
 have b5_1 := hB5.b b4_1
 have b5_2 := hB5.b b4_2
 have b5_3 := hB5.b br4_1
 have k5_6 := kt hg5 6 k4_6
 have k5_36 := kt hg5 36 (hB5.is 12)
 obtain ⟨W6, hW6⟩ : ∃ W', W' = W5.setRow (s1 0) #[.int .i64 ((rn * 100000 / (ln + fo))), .int .i64 ((rn * 100000 / (ln - fo)))] := ⟨_, rfl⟩
 refine tail_skip (o := _) rfl ⟨rfl, rfl⟩ (run_seg hW6 (fr_ev k5_6) (fr_ev k5_36) b5_0 rfl rfl rfl rfl) ?_
 obtain ⟨fB6, nb6, ot6, z6⟩ := seg_facts hW6 fB5 b5_0 (by omega)
 clear hW6
 have b6_1 := ot6 _ _ (by omega) b5_1
 have b6_2 := ot6 _ _ (by omega) b5_2
 have b6_3 := ot6 _ _ (by omega) b5_3
 refine tail_value (o := _) rfl rfl rfl (v := .int .i64 0) (by simp [go_sem]) ?_
 generalize hg7 : upd g5 7 (.int .i64 0) = g7
 have k7_6 := ku hg7 6 k5_6
 have k7_7 := kt hg7 7 (upd_same _ _ _)
 refine wpOps_end ?_
 refine hK9 _ _ ?_
 refine wp_ret ?_
 refine leave_gen (v := .tuple #[.agg #[.int .i64 ((rn * 100000 / (ln + fo))), .int .i64 ((rn * 100000 / (ln - fo)))], .int .i64 0]) (.inr rfl) (by simp [results, Try.results23, go_sem, frv 37 k7_6, cl nb6 0, cl nb6 1, frv 37 k7_7]) ?_
 exact ⟨rfl, fB6⟩
end Go.Proofs.Ytnhipdbdolabkaa
