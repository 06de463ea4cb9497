/- Part of the proof: what the claim leans on. -/
import Derived.Test.YtnhipdbdolabkaaKAN
import Derived.Test.YtnhipdbdolabkaaKAJ
set_option linter.unusedSimpArgs false
set_option linter.unusedVariables false
namespace Go.Proofs.Ytnhipdbdolabkaa
open Go.RowKit
theorem tab_zero {W : World} {b N : Nat} {T : TypeId} (h : W.heap[b]? = some (.cells (List.replicate N (Value.int .i64 0)).toArray T (0, 0))) : TabC T N (fun _ => 0) b W :=
  ⟨_, h, by simp, fun i hi => by simp [hi]⟩
/-- What is known of the table. -/
def TabOk (f : Nat → Int) (F T : Nat → Int) (m i k : Nat) : Prop := ∀ i' k', k' ≤ m → (i' < i ∨ i' = i ∧ k' < k) → f (i' * 11 + k') = chT F T i' k'
theorem TabOk.step {f F T : Nat → Int} {m i k : Nat} {x : Int} (h : TabOk f F T m i k) (hm : m ≤ 10) (hk : k ≤ m) (hx : x = chT F T i k) : TabOk (upd f (i * 11 + k) x) F T m i (k + 1) := by
  intro i' k' h1 h2
  by_cases e : i' = i ∧ k' = k
  · obtain ⟨rfl, rfl⟩ := e; rw [upd_same]; exact hx
  · rw [upd_other _ _ (by omega)]; exact h i' k' h1 (by omega)
theorem TabOk.next {f F T : Nat → Int} {m i : Nat} (h : TabOk f F T m i (m + 1)) : TabOk f F T m (i + 1) 0 := fun i' k' h1 h2 => h i' k' h1 (by omega)
theorem ch_0 (F T : Nat → Int) (k : Nat) : (k : Int) * 500 = chT F T 0 k := rfl
theorem ch_k0 (F T : Nat → Int) {i : Nat} (hi : 0 < i) : (i : Int) * 500 = chT F T i 0 := by
  obtain ⟨j, rfl⟩ : ∃ j, i = j + 1 := ⟨i - 1, by omega⟩
  rfl
theorem ch_step (F T : Nat → Int) {i k : Nat} (hi : 0 < i) (hk : 0 < k) : chT F T i k = min (min (chT F T (i - 1) (k - 1) + (max (F (i - 1)) (T (k - 1)) - min (F (i - 1)) (T (k - 1)))) (chT F T (i - 1) k + 500)) (chT F T i (k - 1) + 500) := by
  obtain ⟨j, rfl⟩ : ∃ j, i = j + 1 := ⟨i - 1, by omega⟩
  obtain ⟨l, rfl⟩ : ∃ l, k = l + 1 := ⟨k - 1, by omega⟩
  rfl
set_option maxRecDepth 100000 in
set_option maxHeartbeats 16000000 in
theorem change_any (ax ay : Option Addr) (nx cx ny cy : Nat) (xs ys : List Int) (w : World) (hX : Ii w ax nx cx xs) (hY : Ii w ay ny cy ys) (gx3 : ∀ x ∈ xs, 0 ≤ x ∧ x ≤ 3000) (gy3 : ∀ x ∈ ys, 0 ≤ x ∧ x ≤ 3000) (gnx : 1 ≤ nx ∧ nx ≤ 10) (gny : 1 ≤ ny ∧ ny ≤ 10) (hsx : ∀ k, 0 < k → k < nx → elT xs (k - 1) ≤ elT xs k) (hsy : ∀ k, 0 < k → k < ny → elT ys (k - 1) ≤ elT ys k) (hcx : Lib.compact xs = xs) (hcy : Lib.compact ys = ys) :
  Calls Try.prog 19 #[.slice (ax) (nx) (cx), .slice (ay) (ny) (cy)] w (fun e w' => e = .returned (.tuple #[.int .i64 (chT (elT xs) (elT ys) nx ny), .int .i64 0]) ∧ Below w.heap.size w w') := by
 obtain ⟨bz, oz, hX_⟩ := hX.open
 obtain ⟨by_, oy_, hY_⟩ := hY.open
 have hnx_ : decide (10 < (nx : Int)) = false := decide_eq_false (by omega)
 have hny_ : decide (10 < (ny : Int)) = false := decide_eq_false (by omega)
 refine calls_fr Try.func19 Try.ntmps19 rfl rfl fun g hg => ?_
 have k0 : g 0 = .slice (ax) (nx) (cx) := hg 0
 have k1 : g 1 = .slice (ay) (ny) (cy) := hg 1
 clear hg
 have fB0 : Below w.heap.size w w := Below.refl _ _
 refine wp_seq_k fun K1 hK1 => ?_
 refine region_dk 2 [(4, 0), (5, 1)] [[], [0]] (rel [is (.int .i64 0),
   is (.int .i64 0)])
  ⟨is_k, is_k, trivial⟩
  ⟨fun f s W c d j l m a => opv rfl rfl (by simp [go_sem]) rfl,
  fun f s W c d j l m a => opv rfl rfl (by simp [go_sem]) rfl, trivial⟩ ?_
 intro f1 s1 W1 hB1 g1 hg1
 have fB1 := hB1.f fB0
 have z1 := hB1.below.size
 refine hK1 _ _ ?_
 have k1_0 := kt hg1 0 k0
 have k1_1 := kt hg1 1 k1
 have k1_4 := kt hg1 4 (hB1.is 0)
 have k1_5 := kt hg1 5 (hB1.is 1)
 refine wp_seq_k fun K2 hK2 => ?_
 refine wp_block ?_
 refine wp_seq_k fun K3 hK3 => ?_
 refine wp_seq_k fun K4 hK4 => ?_
 refine region_dk 4 [(11, 0), (12, 1), (13, 2), (10, 3)] [[], [0], [0, 1], [0, 1, 2]] (rel [is (.slice (ax) (nx) (cx)),
   is (.int .i64 ((nx : Int))),
   is (.bool false),
   is (.bool false)])
  ⟨is_k, is_k, is_k, is_k, trivial⟩
  ⟨fun f s W c d j l m a => opv rfl rfl (by simp [go_sem, a.e 0 k1_0]) rfl,
  fun f s W c d j l m a => opv rfl rfl (by simp [go_sem, a.e 11 (d 0 rfl)]) rfl,
  fun f s W c d j l m a => opv rfl rfl (by simp [go_sem, a.e 12 (d 1 rfl), hnx_]) rfl,
  fun f s W c d j l m a => opv rfl rfl (by simp [go_sem, a.e 13 (d 2 rfl)]) rfl, trivial⟩ ?_
 intro f2 s2 W2 hB2 g2 hg2
 have fB2 := hB2.f fB1
 have z2 := hB2.below.size
 refine hK4 _ _ ?_
 have k2_0 := kt hg2 0 k1_0
 have k2_1 := kt hg2 1 k1_1
 have k2_4 := kt hg2 4 k1_4
 have k2_5 := kt hg2 5 k1_5
 have k2_10 := kt hg2 10 (hB2.is 3)
 refine wp_cond_false ((fr_eval rfl).trans k2_10) ?_
 refine region_dk 4 [(14, 0), (15, 1), (16, 2), (10, 3)] [[], [0], [0, 1], [0, 1, 2]] (rel [is (.slice (ay) (ny) (cy)),
   is (.int .i64 ((ny : Int))),
   is (.bool false),
   is (.bool false)])
  ⟨is_k, is_k, is_k, is_k, trivial⟩
  ⟨fun f s W c d j l m a => opv rfl rfl (by simp [go_sem, a.e 1 k2_1]) rfl,
  fun f s W c d j l m a => opv rfl rfl (by simp [go_sem, a.e 14 (d 0 rfl)]) rfl,
  fun f s W c d j l m a => opv rfl rfl (by simp [go_sem, a.e 15 (d 1 rfl), hny_]) rfl,
  fun f s W c d j l m a => opv rfl rfl (by simp [go_sem, a.e 16 (d 2 rfl)]) rfl, trivial⟩ ?_
 intro f3 s3 W3 hB3 g3 hg3
 have fB3 := hB3.f fB2
 have z3 := hB3.below.size
 refine hK3 _ _ ?_
 have k3_0 := kt hg3 0 k2_0
 have k3_1 := kt hg3 1 k2_1
 have k3_4 := kt hg3 4 k2_4
 have k3_5 := kt hg3 5 k2_5
 have k3_10 := kt hg3 10 (hB3.is 3)
 refine wp_cond_false ((fr_eval rfl).trans k3_10) ?_
 refine wp_seq_k fun K7 hK7 => ?_
 refine wp_seq_k fun K8 hK8 => ?_
 refine region_dk 4 [(18, 0), (19, 1), (20, 2), (17, 3)] [[], [0], [0, 1], [0, 1, 2]] (rel [is (.slice (ax) (nx) (cx)),
   is (.bool true),
   is (.bool false),
   is (.bool false)])
  ⟨is_k, is_k, is_k, is_k, trivial⟩
  ⟨fun f s W c d j l m a => opv rfl rfl (by simp [go_sem, a.e 0 k3_0]) rfl,
  fun f s W c d j l m a => by have n := below_trans fB3 c; exact opc rfl rfl (by simp [go_sem, a.e 18 (d 0 rfl)]) (knives_yes ax nx cx xs W (hX.below n (Nat.le_refl _)) gx3 (by omega) hsx hcx),
  fun f s W c d j l m a => opv rfl rfl (by simp [go_sem, a.e 19 (d 1 rfl)]) rfl,
  fun f s W c d j l m a => opv rfl rfl (by simp [go_sem, a.e 20 (d 2 rfl)]) rfl, trivial⟩ ?_
 intro f4 s4 W4 hB4 g4 hg4
 have fB4 := hB4.f fB3
 have z4 := hB4.below.size
 refine hK8 _ _ ?_
 have k4_0 := kt hg4 0 k3_0
 have k4_1 := kt hg4 1 k3_1
 have k4_4 := kt hg4 4 k3_4
 have k4_5 := kt hg4 5 k3_5
 have k4_17 := kt hg4 17 (hB4.is 3)
 refine wp_cond_false ((fr_eval rfl).trans k4_17) ?_
 refine region_dk 4 [(21, 0), (22, 1), (23, 2), (17, 3)] [[], [0], [0, 1], [0, 1, 2]] (rel [is (.slice (ay) (ny) (cy)),
   is (.bool true),
   is (.bool false),
   is (.bool false)])
  ⟨is_k, is_k, is_k, is_k, trivial⟩
  ⟨fun f s W c d j l m a => opv rfl rfl (by simp [go_sem, a.e 1 k4_1]) rfl,
  fun f s W c d j l m a => by have n := below_trans fB4 c; exact opc rfl rfl (by simp [go_sem, a.e 21 (d 0 rfl)]) (knives_yes ay ny cy ys W (hY.below n (Nat.le_refl _)) gy3 (by omega) hsy hcy),
  fun f s W c d j l m a => opv rfl rfl (by simp [go_sem, a.e 22 (d 1 rfl)]) rfl,
  fun f s W c d j l m a => opv rfl rfl (by simp [go_sem, a.e 23 (d 2 rfl)]) rfl, trivial⟩ ?_
 intro f5 s5 W5 hB5 g5 hg5
 have fB5 := hB5.f fB4
 have z5 := hB5.below.size
 refine hK7 _ _ ?_
 have k5_0 := kt hg5 0 k4_0
 have k5_1 := kt hg5 1 k4_1
 have k5_4 := kt hg5 4 k4_4
 have k5_5 := kt hg5 5 k4_5
 have k5_17 := kt hg5 17 (hB5.is 3)
 refine wp_cond_false ((fr_eval rfl).trans k5_17) ?_
 refine wp_skip ?_
 refine inBlock_normal ?_
 refine hK2 _ _ ?_
 refine wp_seq_k fun K11 hK11 => ?_
 refine region_dk 1 [(6, 0)] [[]] (rel [bx 0 #[.int .i64 0, .int .i64 0, .int .i64 0, .int .i64 0, .int .i64 0, .int .i64 0, .int .i64 0, .int .i64 0, .int .i64 0, .int .i64 0, .int .i64 0, .int .i64 0, .int .i64 0, .int .i64 0, .int .i64 0, .int .i64 0, .int .i64 0, .int .i64 0, .int .i64 0, .int .i64 0, .int .i64 0, .int .i64 0, .int .i64 0, .int .i64 0, .int .i64 0, .int .i64 0, .int .i64 0, .int .i64 0, .int .i64 0, .int .i64 0, .int .i64 0, .int .i64 0, .int .i64 0, .int .i64 0, .int .i64 0, .int .i64 0, .int .i64 0, .int .i64 0, .int .i64 0, .int .i64 0, .int .i64 0, .int .i64 0, .int .i64 0, .int .i64 0, .int .i64 0, .int .i64 0, .int .i64 0, .int .i64 0, .int .i64 0, .int .i64 0, .int .i64 0, .int .i64 0, .int .i64 0, .int .i64 0, .int .i64 0, .int .i64 0, .int .i64 0, .int .i64 0, .int .i64 0, .int .i64 0, .int .i64 0, .int .i64 0, .int .i64 0, .int .i64 0, .int .i64 0, .int .i64 0, .int .i64 0, .int .i64 0, .int .i64 0, .int .i64 0, .int .i64 0, .int .i64 0, .int .i64 0, .int .i64 0, .int .i64 0, .int .i64 0, .int .i64 0, .int .i64 0, .int .i64 0, .int .i64 0, .int .i64 0, .int .i64 0, .int .i64 0, .int .i64 0, .int .i64 0, .int .i64 0, .int .i64 0, .int .i64 0, .int .i64 0, .int .i64 0, .int .i64 0, .int .i64 0, .int .i64 0, .int .i64 0, .int .i64 0, .int .i64 0, .int .i64 0, .int .i64 0, .int .i64 0, .int .i64 0, .int .i64 0, .int .i64 0, .int .i64 0, .int .i64 0, .int .i64 0, .int .i64 0, .int .i64 0, .int .i64 0, .int .i64 0, .int .i64 0, .int .i64 0, .int .i64 0, .int .i64 0, .int .i64 0, .int .i64 0, .int .i64 0, .int .i64 0, .int .i64 0, .int .i64 0, .int .i64 0, .int .i64 0] 99])
  ⟨bx_k, trivial⟩
  ⟨fun f s W c d j l m a => opb rfl rfl (by simp [go_sem]; rfl), trivial⟩ ?_
 intro f6 s6 W6 hB6 g6 hg6
 have fB6 := hB6.f fB5
 have z6 := hB6.below.size
 obtain ⟨r6_0, br6_0⟩ := hB6.is 0
 have lr6_0 := hB6.lr 0 br6_0
 refine hK11 _ _ ?_
 have k6_0 := kt hg6 0 k5_0
 have k6_1 := kt hg6 1 k5_1
 have k6_4 := kt hg6 4 k5_4
 have k6_5 := kt hg6 5 k5_5
 have k6_6 := kt hg6 6 r6_0
 obtain ⟨bt, hbt⟩ : ∃ b, (s6 0) = b := ⟨_, rfl⟩
 have tb0 : TabC 99 121 (fun _ => 0) bt W6 := hbt ▸ tab_zero (N := 121) br6_0
 have k6_ : g6 6 = .pointer (some ⟨bt, 0, none⟩) := hbt ▸ k6_6
 have lbt : w.heap.size ≤ bt := by rw [← hbt]; omega
 refine wp_seq_k fun K12 hK12 => ?_
 refine wp_seq_k fun K13 hK13 => ?_
 refine region_dk 4 [(24, 0), (25, 1), (26, 2), (27, 3)] [[], [0], [0, 1], []] (rel [is (.slice (ax) (nx) (cx)),
   is (.int .i64 ((nx : Int))),
   is (.int .i64 ((nx : Int) + 1)),
   is (.int .i64 0)])
  ⟨is_k, is_k, is_k, is_k, trivial⟩
  ⟨fun f s W c d j l m a => opv rfl rfl (by simp [go_sem, a.e 0 k6_0]) rfl,
  fun f s W c d j l m a => opv rfl rfl (by simp [go_sem, a.e 24 (d 0 rfl)]) rfl,
  fun f s W c d j l m a => opv rfl rfl (by simp [go_sem, a.e 25 (d 1 rfl), IntWalk.i64_in ((nx : Int) + 1) (by omega)]) rfl,
  fun f s W c d j l m a => opv rfl rfl (by simp [go_sem]) rfl, trivial⟩ ?_
 intro f7 s7 W7 hB7 g7 hg7
 have fB7 := hB7.f fB6
 have z7 := hB7.below.size
 have q1' := (tb0.below hB7.below)
 refine hK13 _ _ ?_
 have k7_0 := kt hg7 0 k6_0
 have k7_1 := kt hg7 1 k6_1
 have k7_4 := kt hg7 4 k6_4
 have k7_5 := kt hg7 5 k6_5
 have k7_6 := kt hg7 6 k6_
 have k7_26 := kt hg7 26 (hB7.is 2)
 have k7_27 := kt hg7 27 (hB7.is 3)
 refine wp_block ?_
 refine wp_loop_n (fun m_ a_ W_ => ∃ g_ : Nat → Value, a_ = fr 114 g_ ∧ (∃ i : Nat, ∃ f : Nat → Int, m_ = nx + 1 - i ∧ g_ 0 = .slice (ax) (nx) (cx) ∧ g_ 1 = .slice (ay) (ny) (cy) ∧ g_ 4 = .int .i64 0 ∧ g_ 5 = .int .i64 0 ∧ g_ 6 = .pointer (some ⟨bt, 0, none⟩) ∧ g_ 26 = .int .i64 ((nx : Int) + 1) ∧ g_ 27 = .int .i64 ((i : Int)) ∧ Below w.heap.size w W_ ∧ W7.heap.size ≤ W_.heap.size ∧ TabC 99 121 f bt W_ ∧ (i ≤ nx + 1) ∧ (TabOk f (elT xs) (elT ys) ny i 0))) ⟨_, g7, rfl, 0, (fun _ => 0), rfl, k7_0, k7_1, k7_4, k7_5, k7_6, k7_26, k7_27.trans (by rfl), fB7, Nat.le_refl _, q1', (by omega), fun i' k' _ h => by omega⟩ ?_
 rintro _ _ W_2 ⟨g_2, rfl, i, f, rfl, k_2_0, k_2_1, k_2_4, k_2_5, k_2_6, k_2_26, k_2_27, fB_2, z_2, q3', li0, li1⟩
 have hok := li1
 refine wp_seq_k fun K14 hK14 => ?_
 refine region_dk 1 [(28, 0)] [[]] (rel [is (.bool (decide ((i : Int) < ((nx : Int) + 1))))])
  ⟨is_k, trivial⟩
  ⟨fun f s W c d j l m a => opv rfl rfl (by simp [go_sem, a.e 27 k_2_27, a.e 26 k_2_26]) rfl, trivial⟩ ?_
 intro f8 s8 W8 hB8 g8 hg8
 have fB8 := hB8.f fB_2
 have z8 := hB8.below.size
 have q4' := (q3'.below hB8.below)
 refine hK14 _ _ ?_
 have k8_0 := kt hg8 0 k_2_0
 have k8_1 := kt hg8 1 k_2_1
 have k8_4 := kt hg8 4 k_2_4
 have k8_5 := kt hg8 5 k_2_5
 have k8_6 := kt hg8 6 k_2_6
 have k8_26 := kt hg8 26 k_2_26
 have k8_27 := kt hg8 27 k_2_27
 have k8_28 := kt hg8 28 (hB8.is 0)
 refine wp_seq_k fun K15 hK15 => ?_
 refine wp_cond_split (t := decide ((i : Int) < ((nx : Int) + 1))) ((fr_eval rfl).trans k8_28) (fun hc16 => ?_) (fun hc16 => ?_)
 ·
  have hc16' := hc16; try simp only [ba] at hc16'
  have hin : i ≤ nx := by omega
  refine wp_skip ?_
  refine hK15 _ _ ?_
  refine wp_seq_k fun K17 hK17 => ?_
  refine wp_block ?_
  refine wp_seq_k fun K18 hK18 => ?_
  refine region_dk 2 [(29, 0), (7, 1)] [[], [0]] (rel [is (.int .i64 ((i : Int))),
   is (.int .i64 ((i : Int)))])
   ⟨is_k, is_k, trivial⟩
   ⟨fun f s W c d j l m a => opv rfl rfl (by simp [go_sem, a.e 27 k8_27]) rfl,
  fun f s W c d j l m a => opv rfl rfl (by simp [go_sem, a.e 29 (d 0 rfl)]) rfl, trivial⟩ ?_
  intro f9 s9 W9 hB9 g9 hg9
  have fB9 := hB9.f fB8
  have z9 := hB9.below.size
  have q5' := (q4'.below hB9.below)
  refine hK18 _ _ ?_
  have k9_0 := kt hg9 0 k8_0
  have k9_1 := kt hg9 1 k8_1
  have k9_4 := kt hg9 4 k8_4
  have k9_5 := kt hg9 5 k8_5
  have k9_6 := kt hg9 6 k8_6
  have k9_26 := kt hg9 26 k8_26
  have k9_27 := kt hg9 27 k8_27
  have k9_7 := kt hg9 7 (hB9.is 1)
  refine wp_seq_k fun K19 hK19 => ?_
  refine region_dk 4 [(30, 0), (31, 1), (32, 2), (33, 3)] [[], [0], [0, 1], []] (rel [is (.slice (ay) (ny) (cy)),
   is (.int .i64 ((ny : Int))),
   is (.int .i64 ((ny : Int) + 1)),
   is (.int .i64 0)])
   ⟨is_k, is_k, is_k, is_k, trivial⟩
   ⟨fun f s W c d j l m a => opv rfl rfl (by simp [go_sem, a.e 1 k9_1]) rfl,
  fun f s W c d j l m a => opv rfl rfl (by simp [go_sem, a.e 30 (d 0 rfl)]) rfl,
  fun f s W c d j l m a => opv rfl rfl (by simp [go_sem, a.e 31 (d 1 rfl), IntWalk.i64_in ((ny : Int) + 1) (by omega)]) rfl,
  fun f s W c d j l m a => opv rfl rfl (by simp [go_sem]) rfl, trivial⟩ ?_
  intro f10 s10 W10 hB10 g10 hg10
  have fB10 := hB10.f fB9
  have z10 := hB10.below.size
  have q6' := (q5'.below hB10.below)
  refine hK19 _ _ ?_
  have k10_0 := kt hg10 0 k9_0
  have k10_1 := kt hg10 1 k9_1
  have k10_4 := kt hg10 4 k9_4
  have k10_5 := kt hg10 5 k9_5
  have k10_6 := kt hg10 6 k9_6
  have k10_26 := kt hg10 26 k9_26
  have k10_27 := kt hg10 27 k9_27
  have k10_7 := kt hg10 7 k9_7
  have k10_32 := kt hg10 32 (hB10.is 2)
  have k10_33 := kt hg10 33 (hB10.is 3)
  refine wp_block ?_
  refine wp_loop_n (fun m_ a_ W_ => ∃ g_ : Nat → Value, a_ = fr 114 g_ ∧ (∃ k : Nat, ∃ fk : Nat → Int, m_ = ny + 1 - k ∧ g_ 0 = .slice (ax) (nx) (cx) ∧ g_ 1 = .slice (ay) (ny) (cy) ∧ g_ 4 = .int .i64 0 ∧ g_ 5 = .int .i64 0 ∧ g_ 6 = .pointer (some ⟨bt, 0, none⟩) ∧ g_ 26 = .int .i64 ((nx : Int) + 1) ∧ g_ 27 = .int .i64 ((i : Int)) ∧ g_ 7 = .int .i64 ((i : Int)) ∧ g_ 32 = .int .i64 ((ny : Int) + 1) ∧ g_ 33 = .int .i64 ((k : Int)) ∧ Below w.heap.size w W_ ∧ W10.heap.size ≤ W_.heap.size ∧ TabC 99 121 fk bt W_ ∧ (k ≤ ny + 1) ∧ (TabOk fk (elT xs) (elT ys) ny i k))) ⟨_, g10, rfl, 0, f, rfl, k10_0, k10_1, k10_4, k10_5, k10_6, k10_26, k10_27, k10_7, k10_32, k10_33.trans (by rfl), fB10, Nat.le_refl _, q6', (by omega), hok⟩ ?_
  rintro _ _ W_7 ⟨g_7, rfl, k, fk, rfl, k_7_0, k_7_1, k_7_4, k_7_5, k_7_6, k_7_26, k_7_27, k_7_7, k_7_32, k_7_33, fB_7, z_7, q8', lq0, lq1⟩
  clear hok
  have hok := lq1
  refine wp_seq_k fun K20 hK20 => ?_
  refine region_dk 1 [(34, 0)] [[]] (rel [is (.bool (decide ((k : Int) < ((ny : Int) + 1))))])
   ⟨is_k, trivial⟩
   ⟨fun f s W c d j l m a => opv rfl rfl (by simp [go_sem, a.e 33 k_7_33, a.e 32 k_7_32]) rfl, trivial⟩ ?_
  intro f11 s11 W11 hB11 g11 hg11
  have fB11 := hB11.f fB_7
  have z11 := hB11.below.size
  have q9' := (q8'.below hB11.below)
  refine hK20 _ _ ?_
  have k11_0 := kt hg11 0 k_7_0
  have k11_1 := kt hg11 1 k_7_1
  have k11_4 := kt hg11 4 k_7_4
  have k11_5 := kt hg11 5 k_7_5
  have k11_6 := kt hg11 6 k_7_6
  have k11_26 := kt hg11 26 k_7_26
  have k11_27 := kt hg11 27 k_7_27
  have k11_7 := kt hg11 7 k_7_7
  have k11_32 := kt hg11 32 k_7_32
  have k11_33 := kt hg11 33 k_7_33
  have k11_34 := kt hg11 34 (hB11.is 0)
  refine wp_seq_k fun K21 hK21 => ?_
  refine wp_cond_split (t := decide ((k : Int) < ((ny : Int) + 1))) ((fr_eval rfl).trans k11_34) (fun hc22 => ?_) (fun hc22 => ?_)
  ·
   have hc22' := hc22; try simp only [ba] at hc22'
   have hkn : k ≤ ny := by omega
   refine wp_skip ?_
   refine hK21 _ _ ?_
   refine wp_seq_k fun K23 hK23 => ?_
   refine wp_block ?_
   refine wp_seq_k fun K24 hK24 => ?_
   refine region_dk 2 [(35, 0), (8, 1)] [[], [0]] (rel [is (.int .i64 ((k : Int))),
   is (.int .i64 ((k : Int)))])
    ⟨is_k, is_k, trivial⟩
    ⟨fun f s W c d j l m a => opv rfl rfl (by simp [go_sem, a.e 33 k11_33]) rfl,
  fun f s W c d j l m a => opv rfl rfl (by simp [go_sem, a.e 35 (d 0 rfl)]) rfl, trivial⟩ ?_
   intro f12 s12 W12 hB12 g12 hg12
   have fB12 := hB12.f fB11
   have z12 := hB12.below.size
   have q10' := (q9'.below hB12.below)
   refine hK24 _ _ ?_
   have k12_0 := kt hg12 0 k11_0
   have k12_1 := kt hg12 1 k11_1
   have k12_4 := kt hg12 4 k11_4
   have k12_5 := kt hg12 5 k11_5
   have k12_6 := kt hg12 6 k11_6
   have k12_26 := kt hg12 26 k11_26
   have k12_27 := kt hg12 27 k11_27
   have k12_7 := kt hg12 7 k11_7
   have k12_32 := kt hg12 32 k11_32
   have k12_33 := kt hg12 33 k11_33
   have k12_8 := kt hg12 8 (hB12.is 1)
   refine wp_block ?_
   refine wp_seq_k fun K25 hK25 => ?_
   refine region_dk 3 [(88, 0), (89, 1), (87, 2)] [[], [0], [0, 1]] (rel [is (.int .i64 ((i : Int))),
   is (.bool ((i : Int) == 0)),
   is (.bool ((i : Int) == 0))])
    ⟨is_k, is_k, is_k, trivial⟩
    ⟨fun f s W c d j l m a => opv rfl rfl (by simp [go_sem, a.e 7 k12_7]) rfl,
  fun f s W c d j l m a => opv rfl rfl (by simp [go_sem, a.e 88 (d 0 rfl)]) rfl,
  fun f s W c d j l m a => opv rfl rfl (by simp [go_sem, a.e 89 (d 1 rfl)]) rfl, trivial⟩ ?_
   intro f13 s13 W13 hB13 g13 hg13
   have fB13 := hB13.f fB12
   have z13 := hB13.below.size
   have q11' := (q10'.below hB13.below)
   refine hK25 _ _ ?_
   have k13_0 := kt hg13 0 k12_0
   have k13_1 := kt hg13 1 k12_1
   have k13_4 := kt hg13 4 k12_4
   have k13_5 := kt hg13 5 k12_5
   have k13_6 := kt hg13 6 k12_6
   have k13_26 := kt hg13 26 k12_26
   have k13_27 := kt hg13 27 k12_27
   have k13_7 := kt hg13 7 k12_7
   have k13_32 := kt hg13 32 k12_32
   have k13_33 := kt hg13 33 k12_33
   have k13_8 := kt hg13 8 k12_8
   have k13_87 := kt hg13 87 (hB13.is 2)
   refine wp_cond_split (t := (i : Int) == 0) ((fr_eval rfl).trans k13_87) (fun hc26 => ?_) (fun hc26 => ?_)
   ·
    have hc26' := hc26; try simp only [ba] at hc26'
    have hi0_ : i = 0 := by simpa using hc26
    refine region_dk 6 [(90, 0), (91, 1), (92, 2), (93, 3), (94, 4), (95, 5)] [[], [], [], [2], [0], [0, 1, 2, 3, 4], [0, 1, 2, 3, 4, 5]] (rel [is (.int .i64 ((i : Int))),
   is (.int .i64 ((k : Int))),
   is (.int .i64 ((k : Int))),
   is (.int .i64 ((k : Int) * 500)),
   is (.pointer (some ⟨bt, i * 11, none⟩)),
   is (.pointer (some ⟨bt, i * 11 + k, none⟩))])
     ⟨is_k, is_k, is_k, is_k, is_k, is_k, trivial⟩
     ⟨fun f s W c d j l m a => opv rfl rfl (by simp [go_sem, a.e 7 k13_7]) rfl,
  fun f s W c d j l m a => opv rfl rfl (by simp [go_sem, a.e 8 k13_8]) rfl,
  fun f s W c d j l m a => opv rfl rfl (by simp [go_sem, a.e 8 k13_8]) rfl,
  fun f s W c d j l m a => opv rfl rfl (by simp [go_sem, a.e 92 (d 2 rfl), IntWalk.i64_in ((k : Int) * 500) (by omega)]) rfl,
  fun f s W c d j l m a => by have li_ := Nat.not_le.2 (show i < 11 by omega); have li2_ : ((i : Nat) : Int) < 11 := (by omega); exact opv rfl rfl (by simp [go_sem, a.e 6 k13_6, a.e 90 (d 0 rfl), li_, li2_]) rfl,
  fun f s W c d j l m a => by have li_ := Nat.not_le.2 (show k < 11 by omega); have li2_ : ((k : Nat) : Int) < 11 := (by omega); exact opv rfl rfl (by simp [go_sem, a.e 94 (d 4 rfl), a.e 91 (d 1 rfl), li_, li2_]) rfl, trivial⟩ ?_
    intro f14 s14 W14 hB14 g14 hg14
    have fB14 := hB14.f fB13
    have z14 := hB14.below.size
    have q12' := (q11'.below hB14.below)
    have k14_0 := kt hg14 0 k13_0
    have k14_1 := kt hg14 1 k13_1
    have k14_4 := kt hg14 4 k13_4
    have k14_5 := kt hg14 5 k13_5
    have k14_6 := kt hg14 6 k13_6
    have k14_26 := kt hg14 26 k13_26
    have k14_27 := kt hg14 27 k13_27
    have k14_7 := kt hg14 7 k13_7
    have k14_32 := kt hg14 32 k13_32
    have k14_33 := kt hg14 33 k13_33
    have k14_93 := kt hg14 93 (hB14.is 3)
    have k14_95 := kt hg14 95 (hB14.is 5)
    obtain ⟨W15, st15, tb15, ot15, z15, fB15⟩ := storeT_tail (P := Try.prog) (ty := 3) (i := i * 11 + k) (x := (k : Int) * 500) (by omega) fB14 q12' (by omega) (by kernel_rfl)
    refine tail_skip (o := _) rfl ⟨rfl, rfl⟩ (st15 _ _ _ _ _ _ _ _ (fr_ev k14_95) (fr_ev k14_93)) ?_
    refine wpOps_end ?_
    refine inBlock_normal ?_
    refine inBlock_normal ?_
    refine hK23 _ _ ?_
    refine region_dk 2 [(105, 0), (33, 1)] [[], [0]] (rel [is (.int .i64 ((k : Int) + 1)),
   is (.int .i64 ((k : Int) + 1))])
     ⟨is_k, is_k, trivial⟩
     ⟨fun f s W c d j l m a => opv rfl rfl (by simp [go_sem, a.e 33 ((l 1 33 rfl rfl).trans k14_33), IntWalk.i64_in ((k : Int) + 1) (by omega)]) rfl,
  fun f s W c d j l m a => opv rfl rfl (by simp [go_sem, a.e 105 (d 0 rfl)]) rfl, trivial⟩ ?_
    intro f16 s16 W16 hB16 g16 hg16
    have fB16 := hB16.f fB15
    have z16 := hB16.below.size
    have q13' := (tb15.below hB16.below)
    refine wpOps_end ?_
    have k16_0 := kt hg16 0 k14_0
    have k16_1 := kt hg16 1 k14_1
    have k16_4 := kt hg16 4 k14_4
    have k16_5 := kt hg16 5 k14_5
    have k16_6 := kt hg16 6 k14_6
    have k16_26 := kt hg16 26 k14_26
    have k16_27 := kt hg16 27 k14_27
    have k16_7 := kt hg16 7 k14_7
    have k16_32 := kt hg16 32 k14_32
    have k16_33 := kt hg16 33 (hB16.is 1)
    refine then_normal ?_
    exact ⟨_, by omega, g16, rfl, k + 1, (upd fk (i * 11 + k) ((k : Int) * 500)), rfl, k16_0, k16_1, k16_4, k16_5, k16_6, k16_26, k16_27, k16_7, k16_32, k16_33.trans (by go_num), fB16, (by omega), q13', (by omega), hok.step (by omega) (by omega) (by rw [hi0_]; exact ch_0 _ _ k)⟩
   ·
    have hc26' := hc26; try simp only [ba] at hc26'
    have hi0_ : i ≠ 0 := by simpa using hc26
    refine wp_seq_k fun K27 hK27 => ?_
    refine region_dk 3 [(97, 0), (98, 1), (96, 2)] [[], [0], [0, 1]] (rel [is (.int .i64 ((k : Int))),
   is (.bool ((k : Int) == 0)),
   is (.bool ((k : Int) == 0))])
     ⟨is_k, is_k, is_k, trivial⟩
     ⟨fun f s W c d j l m a => opv rfl rfl (by simp [go_sem, a.e 8 k13_8]) rfl,
  fun f s W c d j l m a => opv rfl rfl (by simp [go_sem, a.e 97 (d 0 rfl)]) rfl,
  fun f s W c d j l m a => opv rfl rfl (by simp [go_sem, a.e 98 (d 1 rfl)]) rfl, trivial⟩ ?_
    intro f17 s17 W17 hB17 g17 hg17
    have fB17 := hB17.f fB13
    have z17 := hB17.below.size
    have q14' := (q11'.below hB17.below)
    refine hK27 _ _ ?_
    have k17_0 := kt hg17 0 k13_0
    have k17_1 := kt hg17 1 k13_1
    have k17_4 := kt hg17 4 k13_4
    have k17_5 := kt hg17 5 k13_5
    have k17_6 := kt hg17 6 k13_6
    have k17_26 := kt hg17 26 k13_26
    have k17_27 := kt hg17 27 k13_27
    have k17_7 := kt hg17 7 k13_7
    have k17_32 := kt hg17 32 k13_32
    have k17_33 := kt hg17 33 k13_33
    have k17_8 := kt hg17 8 k13_8
    have k17_96 := kt hg17 96 (hB17.is 2)
    refine wp_cond_split (t := (k : Int) == 0) ((fr_eval rfl).trans k17_96) (fun hc28 => ?_) (fun hc28 => ?_)
    ·
     have hc28' := hc28; try simp only [ba] at hc28'
     have hk0_ : k = 0 := by simpa using hc28
     refine region_dk 6 [(99, 0), (100, 1), (101, 2), (102, 3), (103, 4), (104, 5)] [[], [], [], [2], [0], [0, 1, 2, 3, 4], [0, 1, 2, 3, 4, 5]] (rel [is (.int .i64 ((i : Int))),
   is (.int .i64 ((k : Int))),
   is (.int .i64 ((i : Int))),
   is (.int .i64 ((i : Int) * 500)),
   is (.pointer (some ⟨bt, i * 11, none⟩)),
   is (.pointer (some ⟨bt, i * 11 + k, none⟩))])
      ⟨is_k, is_k, is_k, is_k, is_k, is_k, trivial⟩
      ⟨fun f s W c d j l m a => opv rfl rfl (by simp [go_sem, a.e 7 k17_7]) rfl,
  fun f s W c d j l m a => opv rfl rfl (by simp [go_sem, a.e 8 k17_8]) rfl,
  fun f s W c d j l m a => opv rfl rfl (by simp [go_sem, a.e 7 k17_7]) rfl,
  fun f s W c d j l m a => opv rfl rfl (by simp [go_sem, a.e 101 (d 2 rfl), IntWalk.i64_in ((i : Int) * 500) (by omega)]) rfl,
  fun f s W c d j l m a => by have li_ := Nat.not_le.2 (show i < 11 by omega); have li2_ : ((i : Nat) : Int) < 11 := (by omega); exact opv rfl rfl (by simp [go_sem, a.e 6 k17_6, a.e 99 (d 0 rfl), li_, li2_]) rfl,
  fun f s W c d j l m a => by have li_ := Nat.not_le.2 (show k < 11 by omega); have li2_ : ((k : Nat) : Int) < 11 := (by omega); exact opv rfl rfl (by simp [go_sem, a.e 103 (d 4 rfl), a.e 100 (d 1 rfl), li_, li2_]) rfl, trivial⟩ ?_
     intro f18 s18 W18 hB18 g18 hg18
     have fB18 := hB18.f fB17
     have z18 := hB18.below.size
     have q15' := (q14'.below hB18.below)
     have k18_0 := kt hg18 0 k17_0
     have k18_1 := kt hg18 1 k17_1
     have k18_4 := kt hg18 4 k17_4
     have k18_5 := kt hg18 5 k17_5
     have k18_6 := kt hg18 6 k17_6
     have k18_26 := kt hg18 26 k17_26
     have k18_27 := kt hg18 27 k17_27
     have k18_7 := kt hg18 7 k17_7
     have k18_32 := kt hg18 32 k17_32
     have k18_33 := kt hg18 33 k17_33
     have k18_102 := kt hg18 102 (hB18.is 3)
     have k18_104 := kt hg18 104 (hB18.is 5)
     obtain ⟨W19, st19, tb19, ot19, z19, fB19⟩ := storeT_tail (P := Try.prog) (ty := 3) (i := i * 11 + k) (x := (i : Int) * 500) (by omega) fB18 q15' (by omega) (by kernel_rfl)
     refine tail_skip (o := _) rfl ⟨rfl, rfl⟩ (st19 _ _ _ _ _ _ _ _ (fr_ev k18_104) (fr_ev k18_102)) ?_
     refine wpOps_end ?_
     refine inBlock_normal ?_
     refine inBlock_normal ?_
     refine hK23 _ _ ?_
     refine region_dk 2 [(105, 0), (33, 1)] [[], [0]] (rel [is (.int .i64 ((k : Int) + 1)),
   is (.int .i64 ((k : Int) + 1))])
      ⟨is_k, is_k, trivial⟩
      ⟨fun f s W c d j l m a => opv rfl rfl (by simp [go_sem, a.e 33 ((l 1 33 rfl rfl).trans k18_33), IntWalk.i64_in ((k : Int) + 1) (by omega)]) rfl,
  fun f s W c d j l m a => opv rfl rfl (by simp [go_sem, a.e 105 (d 0 rfl)]) rfl, trivial⟩ ?_
     intro f20 s20 W20 hB20 g20 hg20
     have fB20 := hB20.f fB19
     have z20 := hB20.below.size
     have q16' := (tb19.below hB20.below)
     refine wpOps_end ?_
     have k20_0 := kt hg20 0 k18_0
     have k20_1 := kt hg20 1 k18_1
     have k20_4 := kt hg20 4 k18_4
     have k20_5 := kt hg20 5 k18_5
     have k20_6 := kt hg20 6 k18_6
     have k20_26 := kt hg20 26 k18_26
     have k20_27 := kt hg20 27 k18_27
     have k20_7 := kt hg20 7 k18_7
     have k20_32 := kt hg20 32 k18_32
     have k20_33 := kt hg20 33 (hB20.is 1)
     refine then_normal ?_
     exact ⟨_, by omega, g20, rfl, k + 1, (upd fk (i * 11 + k) ((i : Int) * 500)), rfl, k20_0, k20_1, k20_4, k20_5, k20_6, k20_26, k20_27, k20_7, k20_32, k20_33.trans (by go_num), fB20, (by omega), q16', (by omega), hok.step (by omega) (by omega) (by rw [hk0_]; exact ch_k0 _ _ (by omega))⟩
    ·
     have hc28' := hc28; try simp only [ba] at hc28'
     have hk0_ : k ≠ 0 := by simpa using hc28
     have hb1_ := chT_bd (elT xs) (elT ys) (i - 1) (k - 1)
     have hb2_ := chT_bd (elT xs) (elT ys) (i - 1) k
     have hb3_ := chT_bd (elT xs) (elT ys) i (k - 1)
     have hxb_ := getD_bd gx3 (by decide) (i - 1)
     have hyb_ := getD_bd gy3 (by decide) (k - 1)
     refine wp_seq_k fun K29 hK29 => ?_
     refine region_dk 24 [(36, 0), (37, 1), (38, 2), (39, 3), (40, 4), (41, 5), (42, 6), (43, 7), (44, 8), (45, 9), (46, 10), (47, 11), (48, 12), (49, 13), (50, 14), (51, 15), (52, 16), (53, 17), (54, 18), (55, 19), (56, 20), (57, 21), (58, 22), (9, 23)] [[], [], [1], [0, 1, 2], [0, 1, 2, 3], [], [], [6], [5, 6, 7], [5, 6, 7, 8], [0, 1, 2, 3, 4, 5, 6, 7, 8, 9], [], [], [12], [11, 12, 13], [11, 12, 13, 14], [], [], [17], [16, 17, 18], [16, 17, 18, 19], [11, 12, 13, 14, 15, 16, 17, 18, 19, 20], [0, 1, 2, 3, 4, 5, 6, 7, 8, 9, 10, 11, 12, 13, 14, 15, 16, 17, 18, 19, 20, 21], [0, 1, 2, 3, 4, 5, 6, 7, 8, 9, 10, 11, 12, 13, 14, 15, 16, 17, 18, 19, 20, 21, 22]] (rel [is (.slice (ax) (nx) (cx)),
   is (.int .i64 ((i : Int))),
   is (.int .i64 (((i - 1 : Nat) : Int))),
   is (.pointer (some ⟨bz, oz + (i - 1), none⟩)),
   is (.int .i64 ((elT xs (i - 1)))),
   is (.slice (ay) (ny) (cy)),
   is (.int .i64 ((k : Int))),
   is (.int .i64 (((k - 1 : Nat) : Int))),
   is (.pointer (some ⟨by_, oy_ + (k - 1), none⟩)),
   is (.int .i64 ((elT ys (k - 1)))),
   is (.int .i64 (max (elT xs (i - 1)) (elT ys (k - 1)))),
   is (.slice (ax) (nx) (cx)),
   is (.int .i64 ((i : Int))),
   is (.int .i64 (((i - 1 : Nat) : Int))),
   is (.pointer (some ⟨bz, oz + (i - 1), none⟩)),
   is (.int .i64 ((elT xs (i - 1)))),
   is (.slice (ay) (ny) (cy)),
   is (.int .i64 ((k : Int))),
   is (.int .i64 (((k - 1 : Nat) : Int))),
   is (.pointer (some ⟨by_, oy_ + (k - 1), none⟩)),
   is (.int .i64 ((elT ys (k - 1)))),
   is (.int .i64 (min (elT xs (i - 1)) (elT ys (k - 1)))),
   is (.int .i64 ((max (elT xs (i - 1)) (elT ys (k - 1))) - (min (elT xs (i - 1)) (elT ys (k - 1))))),
   is (.int .i64 ((max (elT xs (i - 1)) (elT ys (k - 1))) - (min (elT xs (i - 1)) (elT ys (k - 1)))))])
      ⟨is_k, is_k, is_k, is_k, is_k, is_k, is_k, is_k, is_k, is_k, is_k, is_k, is_k, is_k, is_k, is_k, is_k, is_k, is_k, is_k, is_k, is_k, is_k, is_k, trivial⟩
      ⟨fun f s W c d j l m a => opv rfl rfl (by simp [go_sem, a.e 0 k17_0]) rfl,
  fun f s W c d j l m a => opv rfl rfl (by simp [go_sem, a.e 7 k17_7]) rfl,
  fun f s W c d j l m a => by have rn_ : (i : Int) - 1 = ((i - 1 : Nat) : Int) := (by omega); have rm_ := IntWalk.i64_in ((i - 1 : Nat) : Int) (by omega); exact opv rfl rfl (by simp [go_sem, a.e 37 (d 1 rfl), IntWalk.i64_in ((i : Int) - 1) (by omega), rn_, rm_]) rfl,
  fun f s W c d j l m a => by have hab := (hX_ (by omega)).1; have li_ := Nat.not_le.2 (show (i - 1) < nx by omega); have li2_ : (((i - 1) : Nat) : Int) < (nx : Int) := (by omega); exact opv rfl rfl (by simp [go_sem, a.e 36 (d 0 rfl), a.e 38 (d 2 rfl), hab, li_, li2_]) rfl,
  fun f s W c d j l m a => by have n := below_trans fB17 c; have cu_ := (hX_ (by omega)).2 W n (i - 1) (by omega); exact opv rfl rfl (by simp [go_sem, a.e 39 (d 3 rfl), cu_]) rfl,
  fun f s W c d j l m a => opv rfl rfl (by simp [go_sem, a.e 1 k17_1]) rfl,
  fun f s W c d j l m a => opv rfl rfl (by simp [go_sem, a.e 8 k17_8]) rfl,
  fun f s W c d j l m a => by have rn_ : (k : Int) - 1 = ((k - 1 : Nat) : Int) := (by omega); have rm_ := IntWalk.i64_in ((k - 1 : Nat) : Int) (by omega); exact opv rfl rfl (by simp [go_sem, a.e 42 (d 6 rfl), IntWalk.i64_in ((k : Int) - 1) (by omega), rn_, rm_]) rfl,
  fun f s W c d j l m a => by have hab := (hY_ (by omega)).1; have li_ := Nat.not_le.2 (show (k - 1) < ny by omega); have li2_ : (((k - 1) : Nat) : Int) < (ny : Int) := (by omega); exact opv rfl rfl (by simp [go_sem, a.e 41 (d 5 rfl), a.e 43 (d 7 rfl), hab, li_, li2_]) rfl,
  fun f s W c d j l m a => by have n := below_trans fB17 c; have cu_ := (hY_ (by omega)).2 W n (k - 1) (by omega); exact opv rfl rfl (by simp [go_sem, a.e 44 (d 8 rfl), cu_]) rfl,
  fun f s W c d j l m a => opv rfl rfl (by simp [go_sem, a.e 40 (d 4 rfl), a.e 45 (d 9 rfl)]) rfl,
  fun f s W c d j l m a => opv rfl rfl (by simp [go_sem, a.e 0 k17_0]) rfl,
  fun f s W c d j l m a => opv rfl rfl (by simp [go_sem, a.e 7 k17_7]) rfl,
  fun f s W c d j l m a => by have rn_ : (i : Int) - 1 = ((i - 1 : Nat) : Int) := (by omega); have rm_ := IntWalk.i64_in ((i - 1 : Nat) : Int) (by omega); exact opv rfl rfl (by simp [go_sem, a.e 48 (d 12 rfl), IntWalk.i64_in ((i : Int) - 1) (by omega), rn_, rm_]) rfl,
  fun f s W c d j l m a => by have hab := (hX_ (by omega)).1; have li_ := Nat.not_le.2 (show (i - 1) < nx by omega); have li2_ : (((i - 1) : Nat) : Int) < (nx : Int) := (by omega); exact opv rfl rfl (by simp [go_sem, a.e 47 (d 11 rfl), a.e 49 (d 13 rfl), hab, li_, li2_]) rfl,
  fun f s W c d j l m a => by have n := below_trans fB17 c; have cu_ := (hX_ (by omega)).2 W n (i - 1) (by omega); exact opv rfl rfl (by simp [go_sem, a.e 50 (d 14 rfl), cu_]) rfl,
  fun f s W c d j l m a => opv rfl rfl (by simp [go_sem, a.e 1 k17_1]) rfl,
  fun f s W c d j l m a => opv rfl rfl (by simp [go_sem, a.e 8 k17_8]) rfl,
  fun f s W c d j l m a => by have rn_ : (k : Int) - 1 = ((k - 1 : Nat) : Int) := (by omega); have rm_ := IntWalk.i64_in ((k - 1 : Nat) : Int) (by omega); exact opv rfl rfl (by simp [go_sem, a.e 53 (d 17 rfl), IntWalk.i64_in ((k : Int) - 1) (by omega), rn_, rm_]) rfl,
  fun f s W c d j l m a => by have hab := (hY_ (by omega)).1; have li_ := Nat.not_le.2 (show (k - 1) < ny by omega); have li2_ : (((k - 1) : Nat) : Int) < (ny : Int) := (by omega); exact opv rfl rfl (by simp [go_sem, a.e 52 (d 16 rfl), a.e 54 (d 18 rfl), hab, li_, li2_]) rfl,
  fun f s W c d j l m a => by have n := below_trans fB17 c; have cu_ := (hY_ (by omega)).2 W n (k - 1) (by omega); exact opv rfl rfl (by simp [go_sem, a.e 55 (d 19 rfl), cu_]) rfl,
  fun f s W c d j l m a => opv rfl rfl (by simp [go_sem, a.e 51 (d 15 rfl), a.e 56 (d 20 rfl)]) rfl,
  fun f s W c d j l m a => opv rfl rfl (by simp [go_sem, a.e 46 (d 10 rfl), a.e 57 (d 21 rfl), IntWalk.i64_in ((max (elT xs (i - 1)) (elT ys (k - 1))) - (min (elT xs (i - 1)) (elT ys (k - 1)))) (by omega)]) rfl,
  fun f s W c d j l m a => opv rfl rfl (by simp [go_sem, a.e 58 (d 22 rfl)]) rfl, trivial⟩ ?_
     intro f21 s21 W21 hB21 g21 hg21
     have fB21 := hB21.f fB17
     have z21 := hB21.below.size
     have q17' := (q14'.below hB21.below)
     refine hK29 _ _ ?_
     have k21_0 := kt hg21 0 k17_0
     have k21_1 := kt hg21 1 k17_1
     have k21_4 := kt hg21 4 k17_4
     have k21_5 := kt hg21 5 k17_5
     have k21_6 := kt hg21 6 k17_6
     have k21_26 := kt hg21 26 k17_26
     have k21_27 := kt hg21 27 k17_27
     have k21_7 := kt hg21 7 k17_7
     have k21_32 := kt hg21 32 k17_32
     have k21_33 := kt hg21 33 k17_33
     have k21_8 := kt hg21 8 k17_8
     have k21_9 := kt hg21 9 (hB21.is 23)
     refine region_dk 28 [(59, 0), (60, 1), (61, 2), (62, 3), (63, 4), (64, 5), (65, 6), (66, 7), (67, 8), (68, 9), (69, 10), (70, 11), (71, 12), (72, 13), (73, 14), (74, 15), (75, 16), (76, 17), (77, 18), (78, 19), (79, 20), (80, 21), (81, 22), (82, 23), (83, 24), (84, 25), (85, 26), (86, 27)] [[], [], [], [2], [], [4], [2, 3], [2, 3, 4, 5, 6], [2, 3, 4, 5, 6, 7], [], [2, 3, 4, 5, 6, 7, 8, 9], [], [11], [], [11, 12], [11, 12, 13, 14], [11, 12, 13, 14, 15], [11, 12, 13, 14, 15, 16], [], [], [19], [18], [18, 19, 20, 21], [18, 19, 20, 21, 22], [18, 19, 20, 21, 22, 23], [2, 3, 4, 5, 6, 7, 8, 9, 10, 11, 12, 13, 14, 15, 16, 17, 18, 19, 20, 21, 22, 23, 24], [0], [0, 1, 2, 3, 4, 5, 6, 7, 8, 9, 10, 11, 12, 13, 14, 15, 16, 17, 18, 19, 20, 21, 22, 23, 24, 25, 26], [0, 1, 2, 3, 4, 5, 6, 7, 8, 9, 10, 11, 12, 13, 14, 15, 16, 17, 18, 19, 20, 21, 22, 23, 24, 25, 26, 27]] (rel [is (.int .i64 ((i : Int))),
   is (.int .i64 ((k : Int))),
   is (.int .i64 ((i : Int))),
   is (.int .i64 (((i - 1 : Nat) : Int))),
   is (.int .i64 ((k : Int))),
   is (.int .i64 (((k - 1 : Nat) : Int))),
   is (.pointer (some ⟨bt, (i - 1) * 11, none⟩)),
   is (.pointer (some ⟨bt, (i - 1) * 11 + (k - 1), none⟩)),
   is (.int .i64 ((chT (elT xs) (elT ys) (i - 1) (k - 1)))),
   is (.int .i64 ((max (elT xs (i - 1)) (elT ys (k - 1))) - (min (elT xs (i - 1)) (elT ys (k - 1))))),
   is (.int .i64 ((chT (elT xs) (elT ys) (i - 1) (k - 1)) + ((max (elT xs (i - 1)) (elT ys (k - 1))) - (min (elT xs (i - 1)) (elT ys (k - 1)))))),
   is (.int .i64 ((i : Int))),
   is (.int .i64 (((i - 1 : Nat) : Int))),
   is (.int .i64 ((k : Int))),
   is (.pointer (some ⟨bt, (i - 1) * 11, none⟩)),
   is (.pointer (some ⟨bt, (i - 1) * 11 + k, none⟩)),
   is (.int .i64 ((chT (elT xs) (elT ys) (i - 1) k))),
   is (.int .i64 ((chT (elT xs) (elT ys) (i - 1) k) + 500)),
   is (.int .i64 ((i : Int))),
   is (.int .i64 ((k : Int))),
   is (.int .i64 (((k - 1 : Nat) : Int))),
   is (.pointer (some ⟨bt, i * 11, none⟩)),
   is (.pointer (some ⟨bt, i * 11 + (k - 1), none⟩)),
   is (.int .i64 ((chT (elT xs) (elT ys) i (k - 1)))),
   is (.int .i64 ((chT (elT xs) (elT ys) i (k - 1)) + 500)),
   is (.int .i64 (min (min ((chT (elT xs) (elT ys) (i - 1) (k - 1)) + ((max (elT xs (i - 1)) (elT ys (k - 1))) - (min (elT xs (i - 1)) (elT ys (k - 1))))) ((chT (elT xs) (elT ys) (i - 1) k) + 500)) ((chT (elT xs) (elT ys) i (k - 1)) + 500))),
   is (.pointer (some ⟨bt, i * 11, none⟩)),
   is (.pointer (some ⟨bt, i * 11 + k, none⟩))])
      ⟨is_k, is_k, is_k, is_k, is_k, is_k, is_k, is_k, is_k, is_k, is_k, is_k, is_k, is_k, is_k, is_k, is_k, is_k, is_k, is_k, is_k, is_k, is_k, is_k, is_k, is_k, is_k, is_k, trivial⟩
      ⟨fun f s W c d j l m a => opv rfl rfl (by simp [go_sem, a.e 7 k21_7]) rfl,
  fun f s W c d j l m a => opv rfl rfl (by simp [go_sem, a.e 8 k21_8]) rfl,
  fun f s W c d j l m a => opv rfl rfl (by simp [go_sem, a.e 7 k21_7]) rfl,
  fun f s W c d j l m a => by have rn_ : (i : Int) - 1 = ((i - 1 : Nat) : Int) := (by omega); have rm_ := IntWalk.i64_in ((i - 1 : Nat) : Int) (by omega); exact opv rfl rfl (by simp [go_sem, a.e 61 (d 2 rfl), IntWalk.i64_in ((i : Int) - 1) (by omega), rn_, rm_]) rfl,
  fun f s W c d j l m a => opv rfl rfl (by simp [go_sem, a.e 8 k21_8]) rfl,
  fun f s W c d j l m a => by have rn_ : (k : Int) - 1 = ((k - 1 : Nat) : Int) := (by omega); have rm_ := IntWalk.i64_in ((k - 1 : Nat) : Int) (by omega); exact opv rfl rfl (by simp [go_sem, a.e 63 (d 4 rfl), IntWalk.i64_in ((k : Int) - 1) (by omega), rn_, rm_]) rfl,
  fun f s W c d j l m a => by have li_ := Nat.not_le.2 (show (i - 1) < 11 by omega); have li2_ : (((i - 1) : Nat) : Int) < 11 := (by omega); exact opv rfl rfl (by simp [go_sem, a.e 6 k21_6, a.e 62 (d 3 rfl), li_, li2_]) rfl,
  fun f s W c d j l m a => by have li_ := Nat.not_le.2 (show (k - 1) < 11 by omega); have li2_ : (((k - 1) : Nat) : Int) < 11 := (by omega); exact opv rfl rfl (by simp [go_sem, a.e 65 (d 6 rfl), a.e 64 (d 5 rfl), li_, li2_]) rfl,
  fun f s W c d j l m a => by have cu_ : W.cell? ⟨bt, (i - 1) * 11 + (k - 1), none⟩ = some (.int .i64 (chT (elT xs) (elT ys) (i - 1) (k - 1))) := (((q17'.below c)).cell (i := (i - 1) * 11 + (k - 1)) (by omega)).trans (by rw [hok (i - 1) (k - 1) (by omega) (by omega)]); exact opv rfl rfl (by simp [go_sem, a.e 66 (d 7 rfl), cu_]) rfl,
  fun f s W c d j l m a => opv rfl rfl (by simp [go_sem, a.e 9 k21_9]) rfl,
  fun f s W c d j l m a => opv rfl rfl (by simp [go_sem, a.e 67 (d 8 rfl), a.e 68 (d 9 rfl), IntWalk.i64_in ((chT (elT xs) (elT ys) (i - 1) (k - 1)) + ((max (elT xs (i - 1)) (elT ys (k - 1))) - (min (elT xs (i - 1)) (elT ys (k - 1))))) (by omega)]) rfl,
  fun f s W c d j l m a => opv rfl rfl (by simp [go_sem, a.e 7 k21_7]) rfl,
  fun f s W c d j l m a => by have rn_ : (i : Int) - 1 = ((i - 1 : Nat) : Int) := (by omega); have rm_ := IntWalk.i64_in ((i - 1 : Nat) : Int) (by omega); exact opv rfl rfl (by simp [go_sem, a.e 70 (d 11 rfl), IntWalk.i64_in ((i : Int) - 1) (by omega), rn_, rm_]) rfl,
  fun f s W c d j l m a => opv rfl rfl (by simp [go_sem, a.e 8 k21_8]) rfl,
  fun f s W c d j l m a => by have li_ := Nat.not_le.2 (show (i - 1) < 11 by omega); have li2_ : (((i - 1) : Nat) : Int) < 11 := (by omega); exact opv rfl rfl (by simp [go_sem, a.e 6 k21_6, a.e 71 (d 12 rfl), li_, li2_]) rfl,
  fun f s W c d j l m a => by have li_ := Nat.not_le.2 (show k < 11 by omega); have li2_ : ((k : Nat) : Int) < 11 := (by omega); exact opv rfl rfl (by simp [go_sem, a.e 73 (d 14 rfl), a.e 72 (d 13 rfl), li_, li2_]) rfl,
  fun f s W c d j l m a => by have cu_ : W.cell? ⟨bt, (i - 1) * 11 + k, none⟩ = some (.int .i64 (chT (elT xs) (elT ys) (i - 1) k)) := (((q17'.below c)).cell (i := (i - 1) * 11 + k) (by omega)).trans (by rw [hok (i - 1) k (by omega) (by omega)]); exact opv rfl rfl (by simp [go_sem, a.e 74 (d 15 rfl), cu_]) rfl,
  fun f s W c d j l m a => opv rfl rfl (by simp [go_sem, a.e 75 (d 16 rfl), IntWalk.i64_in ((chT (elT xs) (elT ys) (i - 1) k) + 500) (by omega)]) rfl,
  fun f s W c d j l m a => opv rfl rfl (by simp [go_sem, a.e 7 k21_7]) rfl,
  fun f s W c d j l m a => opv rfl rfl (by simp [go_sem, a.e 8 k21_8]) rfl,
  fun f s W c d j l m a => by have rn_ : (k : Int) - 1 = ((k - 1 : Nat) : Int) := (by omega); have rm_ := IntWalk.i64_in ((k - 1 : Nat) : Int) (by omega); exact opv rfl rfl (by simp [go_sem, a.e 78 (d 19 rfl), IntWalk.i64_in ((k : Int) - 1) (by omega), rn_, rm_]) rfl,
  fun f s W c d j l m a => by have li_ := Nat.not_le.2 (show i < 11 by omega); have li2_ : ((i : Nat) : Int) < 11 := (by omega); exact opv rfl rfl (by simp [go_sem, a.e 6 k21_6, a.e 77 (d 18 rfl), li_, li2_]) rfl,
  fun f s W c d j l m a => by have li_ := Nat.not_le.2 (show (k - 1) < 11 by omega); have li2_ : (((k - 1) : Nat) : Int) < 11 := (by omega); exact opv rfl rfl (by simp [go_sem, a.e 80 (d 21 rfl), a.e 79 (d 20 rfl), li_, li2_]) rfl,
  fun f s W c d j l m a => by have cu_ : W.cell? ⟨bt, i * 11 + (k - 1), none⟩ = some (.int .i64 (chT (elT xs) (elT ys) i (k - 1))) := (((q17'.below c)).cell (i := i * 11 + (k - 1)) (by omega)).trans (by rw [hok i (k - 1) (by omega) (by omega)]); exact opv rfl rfl (by simp [go_sem, a.e 81 (d 22 rfl), cu_]) rfl,
  fun f s W c d j l m a => opv rfl rfl (by simp [go_sem, a.e 82 (d 23 rfl), IntWalk.i64_in ((chT (elT xs) (elT ys) i (k - 1)) + 500) (by omega)]) rfl,
  fun f s W c d j l m a => opv rfl rfl (by simp [go_sem, a.e 69 (d 10 rfl), a.e 76 (d 17 rfl), a.e 83 (d 24 rfl)]; (repeat' split) <;> omega) rfl,
  fun f s W c d j l m a => by have li_ := Nat.not_le.2 (show i < 11 by omega); have li2_ : ((i : Nat) : Int) < 11 := (by omega); exact opv rfl rfl (by simp [go_sem, a.e 6 k21_6, a.e 59 (d 0 rfl), li_, li2_]) rfl,
  fun f s W c d j l m a => by have li_ := Nat.not_le.2 (show k < 11 by omega); have li2_ : ((k : Nat) : Int) < 11 := (by omega); exact opv rfl rfl (by simp [go_sem, a.e 85 (d 26 rfl), a.e 60 (d 1 rfl), li_, li2_]) rfl, trivial⟩ ?_
     intro f22 s22 W22 hB22 g22 hg22
     have fB22 := hB22.f fB21
     have z22 := hB22.below.size
     have q18' := (q17'.below hB22.below)
     have k22_0 := kt hg22 0 k21_0
     have k22_1 := kt hg22 1 k21_1
     have k22_4 := kt hg22 4 k21_4
     have k22_5 := kt hg22 5 k21_5
     have k22_6 := kt hg22 6 k21_6
     have k22_26 := kt hg22 26 k21_26
     have k22_27 := kt hg22 27 k21_27
     have k22_7 := kt hg22 7 k21_7
     have k22_32 := kt hg22 32 k21_32
     have k22_33 := kt hg22 33 k21_33
     have k22_84 := kt hg22 84 (hB22.is 25)
     have k22_86 := kt hg22 86 (hB22.is 27)
     obtain ⟨W23, st23, tb23, ot23, z23, fB23⟩ := storeT_tail (P := Try.prog) (ty := 3) (i := i * 11 + k) (x := min (min ((chT (elT xs) (elT ys) (i - 1) (k - 1)) + ((max (elT xs (i - 1)) (elT ys (k - 1))) - (min (elT xs (i - 1)) (elT ys (k - 1))))) ((chT (elT xs) (elT ys) (i - 1) k) + 500)) ((chT (elT xs) (elT ys) i (k - 1)) + 500)) (by omega) fB22 q18' (by omega) (by kernel_rfl)
     refine tail_skip (o := _) rfl ⟨rfl, rfl⟩ (st23 _ _ _ _ _ _ _ _ (fr_ev k22_86) (fr_ev k22_84)) ?_
     refine wpOps_end ?_
     refine inBlock_normal ?_
     refine inBlock_normal ?_
     refine hK23 _ _ ?_
     refine region_dk 2 [(105, 0), (33, 1)] [[], [0]] (rel [is (.int .i64 ((k : Int) + 1)),
   is (.int .i64 ((k : Int) + 1))])
      ⟨is_k, is_k, trivial⟩
      ⟨fun f s W c d j l m a => opv rfl rfl (by simp [go_sem, a.e 33 ((l 1 33 rfl rfl).trans k22_33), IntWalk.i64_in ((k : Int) + 1) (by omega)]) rfl,
  fun f s W c d j l m a => opv rfl rfl (by simp [go_sem, a.e 105 (d 0 rfl)]) rfl, trivial⟩ ?_
     intro f24 s24 W24 hB24 g24 hg24
     have fB24 := hB24.f fB23
     have z24 := hB24.below.size
     have q19' := (tb23.below hB24.below)
     refine wpOps_end ?_
     have k24_0 := kt hg24 0 k22_0
     have k24_1 := kt hg24 1 k22_1
     have k24_4 := kt hg24 4 k22_4
     have k24_5 := kt hg24 5 k22_5
     have k24_6 := kt hg24 6 k22_6
     have k24_26 := kt hg24 26 k22_26
     have k24_27 := kt hg24 27 k22_27
     have k24_7 := kt hg24 7 k22_7
     have k24_32 := kt hg24 32 k22_32
     have k24_33 := kt hg24 33 (hB24.is 1)
     refine then_normal ?_
     exact ⟨_, by omega, g24, rfl, k + 1, (upd fk (i * 11 + k) (min (min ((chT (elT xs) (elT ys) (i - 1) (k - 1)) + ((max (elT xs (i - 1)) (elT ys (k - 1))) - (min (elT xs (i - 1)) (elT ys (k - 1))))) ((chT (elT xs) (elT ys) (i - 1) k) + 500)) ((chT (elT xs) (elT ys) i (k - 1)) + 500))), rfl, k24_0, k24_1, k24_4, k24_5, k24_6, k24_26, k24_27, k24_7, k24_32, k24_33.trans (by go_num), fB24, (by omega), q19', (by omega), hok.step (by omega) (by omega) (ch_step _ _ (by omega) (by omega)).symm⟩
  ·
   have hc22' := hc22; try simp only [ba] at hc22'
   have hkm_ : k = ny + 1 := by omega
   refine wp_exit ?_
   refine then_exit ?_
   refine then_exit ?_
   refine inBlock_at ?_
   refine inBlock_normal ?_
   refine hK17 _ _ ?_
   refine region_dk 2 [(106, 0), (27, 1)] [[], [0]] (rel [is (.int .i64 ((i : Int) + 1)),
   is (.int .i64 ((i : Int) + 1))])
    ⟨is_k, is_k, trivial⟩
    ⟨fun f s W c d j l m a => opv rfl rfl (by simp [go_sem, a.e 27 ((l 1 27 rfl rfl).trans k11_27), IntWalk.i64_in ((i : Int) + 1) (by omega)]) rfl,
  fun f s W c d j l m a => opv rfl rfl (by simp [go_sem, a.e 106 (d 0 rfl)]) rfl, trivial⟩ ?_
   intro f25 s25 W25 hB25 g25 hg25
   have fB25 := hB25.f fB11
   have z25 := hB25.below.size
   have q20' := (q9'.below hB25.below)
   refine wpOps_end ?_
   have k25_0 := kt hg25 0 k11_0
   have k25_1 := kt hg25 1 k11_1
   have k25_4 := kt hg25 4 k11_4
   have k25_5 := kt hg25 5 k11_5
   have k25_6 := kt hg25 6 k11_6
   have k25_26 := kt hg25 26 k11_26
   have k25_27 := kt hg25 27 (hB25.is 1)
   refine then_normal ?_
   exact ⟨_, by omega, g25, rfl, i + 1, fk, rfl, k25_0, k25_1, k25_4, k25_5, k25_6, k25_26, k25_27.trans (by go_num), fB25, (by omega), q20', (by omega), (by rw [hkm_] at hok; exact hok.next)⟩
 ·
  have hc16' := hc16; try simp only [ba] at hc16'
  have hie_ : i = nx + 1 := by omega
  refine wp_exit ?_
  refine then_exit ?_
  refine then_exit ?_
  refine inBlock_at ?_
  refine hK12 _ _ ?_
  refine wp_seq_k fun K30 hK30 => ?_
  refine region_dk 9 [(107, 0), (108, 1), (109, 2), (110, 3), (111, 4), (112, 5), (113, 6), (4, 7), (5, 8)] [[], [0], [], [2], [0, 1], [0, 1, 2, 3, 4], [0, 1, 2, 3, 4, 5], [0, 1, 2, 3, 4, 5, 6], [0, 1, 2, 3, 4, 5, 6, 7]] (rel [is (.slice (ax) (nx) (cx)),
   is (.int .i64 ((nx : Int))),
   is (.slice (ay) (ny) (cy)),
   is (.int .i64 ((ny : Int))),
   is (.pointer (some ⟨bt, nx * 11, none⟩)),
   is (.pointer (some ⟨bt, nx * 11 + ny, none⟩)),
   is (.int .i64 ((chT (elT xs) (elT ys) nx ny))),
   is (.int .i64 ((chT (elT xs) (elT ys) nx ny))),
   is (.int .i64 0)])
   ⟨is_k, is_k, is_k, is_k, is_k, is_k, is_k, is_k, is_k, trivial⟩
   ⟨fun f s W c d j l m a => opv rfl rfl (by simp [go_sem, a.e 0 k8_0]) rfl,
  fun f s W c d j l m a => opv rfl rfl (by simp [go_sem, a.e 107 (d 0 rfl)]) rfl,
  fun f s W c d j l m a => opv rfl rfl (by simp [go_sem, a.e 1 k8_1]) rfl,
  fun f s W c d j l m a => opv rfl rfl (by simp [go_sem, a.e 109 (d 2 rfl)]) rfl,
  fun f s W c d j l m a => by have li_ := Nat.not_le.2 (show nx < 11 by omega); have li2_ : ((nx : Nat) : Int) < 11 := (by omega); exact opv rfl rfl (by simp [go_sem, a.e 6 k8_6, a.e 108 (d 1 rfl), li_, li2_]) rfl,
  fun f s W c d j l m a => by have li_ := Nat.not_le.2 (show ny < 11 by omega); have li2_ : ((ny : Nat) : Int) < 11 := (by omega); exact opv rfl rfl (by simp [go_sem, a.e 111 (d 4 rfl), a.e 110 (d 3 rfl), li_, li2_]) rfl,
  fun f s W c d j l m a => by have cu_ : W.cell? ⟨bt, nx * 11 + ny, none⟩ = some (.int .i64 (chT (elT xs) (elT ys) nx ny)) := (((q4'.below c)).cell (i := nx * 11 + ny) (by omega)).trans (by rw [hok nx ny (by omega) (by omega)]); exact opv rfl rfl (by simp [go_sem, a.e 112 (d 5 rfl), cu_]) rfl,
  fun f s W c d j l m a => opv rfl rfl (by simp [go_sem, a.e 113 (d 6 rfl)]) rfl,
  fun f s W c d j l m a => opv rfl rfl (by simp [go_sem]) rfl, trivial⟩ ?_
  intro f26 s26 W26 hB26 g26 hg26
  have fB26 := hB26.f fB8
  have z26 := hB26.below.size
  have q21' := (q4'.below hB26.below)
  refine hK30 _ _ ?_
  have k26_4 := kt hg26 4 (hB26.is 7)
  have k26_5 := kt hg26 5 (hB26.is 8)
  refine wp_ret ?_
  refine leave_gen (v := .tuple #[.int .i64 ((chT (elT xs) (elT ys) nx ny)), .int .i64 0]) (.inr rfl) (by simp [results, Try.results19, go_sem, frv 114 k26_4, frv 114 k26_5]) ?_
  exact ⟨rfl, fB26⟩
end Go.Proofs.Ytnhipdbdolabkaa
