/- Part of the proof: what the claim leans on. -/
import Derived.Test.YthnediamopehfaaGreatVAK
import Derived.Test.YthnediamopehfaaGreatVAM
import Derived.Test.YthnediamopehfaaGreatVAT
set_option maxHeartbeats 400000
set_option maxRecDepth 100000
set_option linter.unusedSimpArgs false
set_option linter.unusedVariables false
namespace Go.Proofs.YthnediamopehfaaGreat
open Go.RowKit
theorem drop_end (xs : List Int) (k : Nat) (h : ¬ k < xs.length) : xs.drop k = [] := List.drop_eq_nil_of_le (by omega)
theorem drop_step (xs : List Int) (k : Nat) (h : k < xs.length) : xs.drop k = xs.getD k 0 :: xs.drop (k + 1) := by
  rw [List.drop_eq_getElem_cons h]
  simp [List.getD_eq_getElem?_getD, h]
theorem intsEq_any (a : Option Addr) (c : Nat) (xs : List Int) (a2 : Option Addr) (c2 : Nat) (ys : List Int) (w : World) (hI : Ii w a xs.length c xs) (hJ : Ii w a2 ys.length c2 ys) :
  Calls Tryz.prog 47 #[.slice a (xs.length) c, .slice a2 (ys.length) c2] w (fun e w' => e = .returned (.bool (xs == ys)) ∧ Below w.heap.size w w') := by
 have hmx := hI.len_le
 have hmy := hJ.len_le
 refine calls_fr Tryz.func47 Tryz.ntmps47 rfl rfl fun g hg => ?_
 have k0 : g 0 = .slice a (xs.length) c := hg 0
 have k1 : g 1 = .slice a2 (ys.length) c2 := hg 1
 clear hg
 have fB0 : Below w.heap.size w w := Below.refl _ _
 refine rw_ 1 [(4, 0)] [[]] (rel [iB false])
  ⟨fun f s W d h i j a ha => opz, trivial⟩ ?_
 intro f1 s1 W1 hB1 g1 hg1 z1
 have k1_0 := kt hg1 0 k0
 have k1_1 := kt hg1 1 k1
 refine wp_seq_k fun K2 hK2 => ?_
 refine rw_ 5 [(6, 0), (7, 1), (8, 2), (9, 3), (10, 4)] [[], [0], [], [2], [1, 3]] (rel [is (.slice a (xs.length) c), iI ((xs.length : Int)), is (.slice a2 (ys.length) c2), iI ((ys.length : Int)), iB ((xs.length : Int) != (ys.length : Int))])
  ⟨fun f s W d h i j a ha => opm (ha.v 0 k1_0),
  fun f s W d h i j a ha => opv rfl rfl (by simp [go_sem, ha.e 6 (h 0 rfl)]) rfl,
  fun f s W d h i j a ha => opm (ha.v 1 k1_1),
  fun f s W d h i j a ha => opv rfl rfl (by simp [go_sem, ha.e 8 (h 2 rfl)]) rfl,
  fun f s W d h i j a ha => opv rfl rfl (by simp [go_sem, ha.e 7 (h 1 rfl), ha.e 9 (h 3 rfl)]) rfl, trivial⟩ ?_
 intro f2 s2 W2 hB2 g2 hg2 z2
 have fB2 := hB2.f (hB1.f fB0)
 have k2_10 := kt hg2 10 (hB2.is 4)
 refine wp_cond_split (t := (xs.length : Int) != (ys.length : Int)) ((fr_eval rfl).trans k2_10) (fun hc4 => ?_) (fun hc4 => ?_)
 ·
  have hc4' := hc4; try simp only [ba] at hc4'
  refine rw_ 1 [(4, 0)] [[]] (rel [iB false])
   ⟨fun f s W d h i j a ha => opz, trivial⟩ ?_
  intro f3 s3 W3 hB3 g3 hg3 z3
  have fB3 := hB3.f fB2
  have k3_4 := kt hg3 4 (hB3.is 0)
  refine wp_ret ?_
  refine then_ret ?_
  refine leave_one (N := 26) (.inr rfl) Tryz.results47 rfl k3_4 ?_
  exact ⟨ret_bool (by have h' : xs ≠ ys := fun e => (by rw [e] at hc4'; omega); simpa using h'), fB3⟩
 ·
  have hc4' := hc4; try simp only [ba] at hc4'
  refine wp_skip ?_
  refine hK2 _ _ ?_
  refine wp_seq_k fun K6 hK6 => ?_
  refine rw_ 1 [(5, 0)] [[]] (rel [iI 0])
   ⟨fun f s W d h i j a ha => opz, trivial⟩ ?_
  intro f4 s4 W4 hB4 g4 hg4 z4
  have fB4 := hB4.f fB2
  have k4_0 := kt hg4 0 (kt hg2 0 k1_0)
  have k4_1 := kt hg4 1 (kt hg2 1 k1_1)
  have k4_4 := kt hg4 4 (kt hg2 4 (kt hg1 4 (hB1.is 0)))
  have k4_5 := kt hg4 5 (hB4.is 0)
  refine wp_block ?_
  refine wp_loop_n (fun m_ a_ W_ => ∃ g_ : Nat → Value, a_ = fr 26 g_ ∧ (∃ k : Nat, m_ = xs.length - k ∧ g_ 0 = .slice a (xs.length) c ∧ g_ 1 = .slice a2 (ys.length) c2 ∧ g_ 4 = .bool false ∧ g_ 5 = .int .i64 ((k : Int)) ∧ Below w.heap.size w W_ ∧ W4.heap.size ≤ W_.heap.size ∧ (xs.drop k == ys.drop k) = (xs == ys))) ⟨_, g4, rfl, 0, rfl, k4_0, k4_1, k4_4, k4_5.trans (by rfl), fB4, Nat.le_refl _, by simp⟩ ?_
  rintro _ _ W_2 ⟨g_2, rfl, k, rfl, k_2_0, k_2_1, k_2_4, k_2_5, fB_2, z_2, lp0⟩
  refine wp_seq_k fun K8 hK8 => ?_
  refine rw_ 4 [(11, 0), (12, 1), (13, 2), (14, 3)] [[], [], [1], [0, 2]] (rel [iI ((k : Int)), is (.slice a (xs.length) c), iI ((xs.length : Int)), iB (decide ((k : Int) < (xs.length : Int)))])
   ⟨fun f s W d h i j a ha => opm (ha.v 5 k_2_5),
  fun f s W d h i j a ha => opm (ha.v 0 k_2_0),
  fun f s W d h i j a ha => opv rfl rfl (by simp [go_sem, ha.e 12 (h 1 rfl)]) rfl,
  fun f s W d h i j a ha => opv rfl rfl (by simp [go_sem, ha.e 11 (h 0 rfl), ha.e 13 (h 2 rfl)]) rfl, trivial⟩ ?_
  intro f5 s5 W5 hB5 g5 hg5 z5
  have fB5 := hB5.f fB_2
  have k5_0 := kt hg5 0 k_2_0
  have k5_1 := kt hg5 1 k_2_1
  have k5_5 := kt hg5 5 k_2_5
  have k5_14 := kt hg5 14 (hB5.is 3)
  refine wp_cond_split (t := decide ((k : Int) < (xs.length : Int))) ((fr_eval rfl).trans k5_14) (fun hc10 => ?_) (fun hc10 => ?_)
  ·
   have hc10' := hc10; try simp only [ba] at hc10'
   have hlt : k < xs.length := by omega
   have hlt2 : k < ys.length := by omega
   obtain ⟨b, off, hab, hbl, hcl⟩ := hI.at (by omega)
   obtain ⟨b2, off2, hab2, hbl2, hcl2⟩ := hJ.at (by omega)
   refine wp_skip ?_
   refine hK8 _ _ ?_
   refine wp_seq_k fun K11 hK11 => ?_
   refine wp_block ?_
   refine rw_ 9 [(17, 0), (18, 1), (19, 2), (20, 3), (21, 4), (22, 5), (23, 6), (24, 7), (25, 8)] [[], [], [0, 1], [2], [], [], [4, 5], [6], [3, 7]] (rel [is (.slice a (xs.length) c), iI ((k : Int)), is (.pointer (some ⟨b, off + k, none⟩)), iI ((xs.getD k 0)), is (.slice a2 (ys.length) c2), iI ((k : Int)), is (.pointer (some ⟨b2, off2 + k, none⟩)), iI ((ys.getD k 0)), iB ((xs.getD k 0) != (ys.getD k 0))])
    ⟨fun f s W d h i j a ha => opm (ha.v 0 k5_0),
  fun f s W d h i j a ha => opm (ha.v 5 k5_5),
  fun f s W d h i j a ha => opv rfl rfl (by simp [go_sem, ha.e 17 (h 0 rfl), ha.e 18 (h 1 rfl), hab, hlt]) rfl,
  fun f s W d h i j a ha => by have l := bwt fB5 d; exact opv rfl rfl (by simp [go_sem, ha.e 19 (h 2 rfl), (l.cell (p := ⟨b, off + k, none⟩) hbl).trans (hcl k hlt)]) rfl,
  fun f s W d h i j a ha => opm (ha.v 1 k5_1),
  fun f s W d h i j a ha => opm (ha.v 5 k5_5),
  fun f s W d h i j a ha => opv rfl rfl (by simp [go_sem, ha.e 21 (h 4 rfl), ha.e 22 (h 5 rfl), hab2, hlt2]) rfl,
  fun f s W d h i j a ha => by have l := bwt fB5 d; exact opv rfl rfl (by simp [go_sem, ha.e 23 (h 6 rfl), (l.cell (p := ⟨b2, off2 + k, none⟩) hbl2).trans (hcl2 k hlt2)]) rfl,
  fun f s W d h i j a ha => opv rfl rfl (by simp [go_sem, ha.e 20 (h 3 rfl), ha.e 24 (h 7 rfl)]) rfl, trivial⟩ ?_
   intro f6 s6 W6 hB6 g6 hg6 z6
   have fB6 := hB6.f fB5
   have k6_0 := kt hg6 0 k5_0
   have k6_1 := kt hg6 1 k5_1
   have k6_4 := kt hg6 4 (kt hg5 4 k_2_4)
   have k6_5 := kt hg6 5 k5_5
   have k6_25 := kt hg6 25 (hB6.is 8)
   refine wp_cond_split (t := (xs.getD k 0) != (ys.getD k 0)) ((fr_eval rfl).trans k6_25) (fun hc13 => ?_) (fun hc13 => ?_)
   ·
    have hc13' := hc13; try simp only [ba] at hc13'
    refine rw_ 1 [(4, 0)] [[]] (rel [iB false])
     ⟨fun f s W d h i j a ha => opz, trivial⟩ ?_
    intro f7 s7 W7 hB7 g7 hg7 z7
    have fB7 := hB7.f fB6
    have k7_4 := kt hg7 4 (hB7.is 0)
    refine wp_ret ?_
    refine inBlock_ret (then_ret (then_ret (inBlock_ret (then_ret ?_))))
    refine leave_one (N := 26) (.inr rfl) Tryz.results47 rfl k7_4 ?_
    exact ⟨ret_bool (by rw [← lp0, drop_step xs k hlt, drop_step ys k (by omega)]; simp only [List.cons_beq_cons]; have h' := hc13; simp only [bne, Bool.not_eq_true'] at h'; rw [h']; rfl), fB7⟩
   ·
    have hc13' := hc13; try simp only [ba] at hc13'
    refine wp_skip ?_
    refine ibn ?_
    refine hK11 _ _ ?_
    refine ry 3 [(15, 0), (16, 1), (5, 2)] [[], [0], [0, 1]] (rel [iI ((k : Int)), iI ((k : Int) + 1), iI ((k : Int) + 1)])
     ⟨fun f s W d h i j a ha => opm (ha.v 5 ((j 2 5 rfl rfl).trans k6_5)),
  fun f s W d h i j a ha => opv rfl rfl (by simp [go_sem, ha.e 15 (h 0 rfl), IntWalk.i64_in ((k : Int) + 1) (by omega)]) rfl,
  fun f s W d h i j a ha => opm (ha.v 16 (h 1 rfl)), trivial⟩ ?_
    intro f8 s8 W8 hB8 g8 hg8 z8
    have fB8 := hB8.f fB6
    refine wpe ?_
    have k8_0 := kt hg8 0 k6_0
    have k8_1 := kt hg8 1 k6_1
    have k8_4 := kt hg8 4 k6_4
    have k8_5 := kt hg8 5 (hB8.is 2)
    refine then_normal ?_
    exact ⟨_, by omega, g8, rfl, k + 1, rfl, k8_0, k8_1, k8_4, k8_5.trans (by go_num), fB8, (by omega), by rw [← lp0, drop_step xs k hlt, drop_step ys k hlt2]; simp only [List.cons_beq_cons]; have h' := hc13; simp only [bne, Bool.not_eq_false'] at h'; rw [h']; rfl⟩
  ·
   have hc10' := hc10; try simp only [ba] at hc10'
   refine wp_exit ?_
   refine then_exit ?_
   refine then_exit ?_
   refine inBlock_at ?_
   refine hK6 _ _ ?_
   refine rw_ 1 [(4, 0)] [[]] (rel [iB true])
    ⟨fun f s W d h i j a ha => opz, trivial⟩ ?_
   intro f9 s9 W9 hB9 g9 hg9 z9
   have fB9 := hB9.f fB5
   have k9_4 := kt hg9 4 (hB9.is 0)
   refine wp_ret ?_
   refine leave_one (N := 26) (.inr rfl) Tryz.results47 rfl k9_4 ?_
   exact ⟨ret_bool (by rw [← lp0, drop_end xs k (by omega), drop_end ys k (by omega)]; rfl), fB9⟩
open Go.RowKit
def sameB (b d : Bl) : Bool := (((((((b.tab == d.tab) && (b.panels == d.panels)) && (b.height == d.height)) && (b.top == d.top)) && (b.bottom == d.bottom)) && (b.slot == d.slot)) && (b.isOpen == d.isOpen))
theorem sameB_iff (b d : Bl) : sameB b d = true ↔ b = d := by
  obtain ⟨t, p, h, u, v, s, o⟩ := b; obtain ⟨t', p', h', u', v', s', o'⟩ := d
  simp only [sameB, Bool.and_eq_true, beq_iff_eq, Bl.mk.injEq, and_assoc]
theorem sameB_self (b : Bl) : sameB b b = true := (sameB_iff b b).2 rfl
theorem same_any (a1 a2 a3 : Option Addr) (c1 c2 c3 : Nat) (b : Bl) (x1 x2 x3 : Option Addr) (y1 y2 y3 : Nat) (d : Bl) (w : World) (h1 : Ii w a1 b.panels.length c1 b.panels) (h2 : Ii w a2 b.top.length c2 b.top) (h3 : Ii w a3 b.bottom.length c3 b.bottom) (m1 : Ii w x1 d.panels.length y1 d.panels) (m2 : Ii w x2 d.top.length y2 d.top) (m3 : Ii w x3 d.bottom.length y3 d.bottom) :
  Calls Tryz.prog 15 #[.agg #[.int .i64 b.tab, .slice a1 (b.panels.length) c1, .int .i64 b.height, .slice a2 (b.top.length) c2, .slice a3 (b.bottom.length) c3, .int .i64 b.slot, .bool b.isOpen], .agg #[.int .i64 d.tab, .slice x1 (d.panels.length) y1, .int .i64 d.height, .slice x2 (d.top.length) y2, .slice x3 (d.bottom.length) y3, .int .i64 d.slot, .bool d.isOpen]] w (fun e w' => e = .returned (.bool (sameB b d)) ∧ Below w.heap.size w w') := by
 refine calls_fr Tryz.func15 Tryz.ntmps15 rfl rfl fun g hg => ?_
 have k0 : g 0 = .agg #[.int .i64 b.tab, .slice a1 (b.panels.length) c1, .int .i64 b.height, .slice a2 (b.top.length) c2, .slice a3 (b.bottom.length) c3, .int .i64 b.slot, .bool b.isOpen] := hg 0
 have k1 : g 1 = .agg #[.int .i64 d.tab, .slice x1 (d.panels.length) y1, .int .i64 d.height, .slice x2 (d.top.length) y2, .slice x3 (d.bottom.length) y3, .int .i64 d.slot, .bool d.isOpen] := hg 1
 clear hg
 have fB0 : Below w.heap.size w w := Below.refl _ _
 refine rw_ 3 [(2, 0), (3, 1), (4, 2)] [[], [], []] (rel [bx 0 #[.int .i64 b.tab, .slice a1 (b.panels.length) c1, .int .i64 b.height, .slice a2 (b.top.length) c2, .slice a3 (b.bottom.length) c3, .int .i64 b.slot, .bool b.isOpen] 24, bx 1 #[.int .i64 d.tab, .slice x1 (d.panels.length) y1, .int .i64 d.height, .slice x2 (d.top.length) y2, .slice x3 (d.bottom.length) y3, .int .i64 d.slot, .bool d.isOpen] 24, iB false])
  ⟨fun f s W i j k l a ha => opb rfl rfl (by simp [go_sem, ha.e 0 k0]),
  fun f s W i j k l a ha => opb rfl rfl (by simp [go_sem, ha.e 1 k1]),
  fun f s W i j k l a ha => opz, trivial⟩ ?_
 intro f1 s1 W1 hB1 g1 hg1 z1
 have fB1 := hB1.f fB0
 obtain ⟨r1_0, br1_0⟩ := hB1.is 0
 have lr1_0 := hB1.lr 0 br1_0
 obtain ⟨r1_1, br1_1⟩ := hB1.is 1
 have lr1_1 := hB1.lr 1 br1_1
 have ne1_0_1 : s1 0 ≠ s1 1 := hB1.ne 0 1 (by decide) (by decide) (by decide) (fun _ _ _ h => ltb h.2) (fun _ _ _ h => ltb h.2)
 have k1_2 := kt hg1 2 r1_0
 have k1_3 := kt hg1 3 r1_1
 refine rw_ 48 [(5, 0), (6, 1), (7, 2), (8, 3), (9, 4), (10, 5), (11, 6), (12, 7), (13, 8), (14, 9), (15, 10), (16, 11), (17, 12), (18, 13), (19, 14), (20, 15), (21, 16), (22, 17), (23, 18), (24, 19), (25, 20), (26, 21), (27, 22), (28, 23), (29, 24), (30, 25), (31, 26), (32, 27), (33, 28), (34, 29), (35, 30), (36, 31), (37, 32), (38, 33), (39, 34), (40, 35), (41, 36), (42, 37), (43, 38), (44, 39), (45, 40), (46, 41), (47, 42), (48, 43), (49, 44), (50, 45), (51, 46), (4, 47)] [[], [0], [], [2], [1, 3], [4], [5], [5, 6], [5], [5, 8], [5, 7, 9], [5, 10], [11], [12], [12, 13], [12], [12, 15], [12, 14, 16], [12, 17], [18], [19], [19, 20], [19], [19, 22], [19, 21, 23], [19, 24], [25], [26], [26, 27], [26], [26, 29], [26, 28, 30], [26, 31], [32], [33], [33, 34], [33], [33, 36], [33, 35, 37], [33, 38], [39], [40], [40, 41], [40], [40, 43], [40, 42, 44], [40, 45], [46]] (rel [is (.pointer (some ⟨(s1 0), 0, none⟩)), iI b.tab, is (.pointer (some ⟨(s1 1), 0, none⟩)), iI d.tab, iB (b.tab == d.tab), iB (b.tab == d.tab), gd (b.tab == d.tab) true (is (.pointer (some ⟨(s1 0), 1, none⟩))), gd (b.tab == d.tab) true (is (.slice a1 (b.panels.length) c1)), gd (b.tab == d.tab) true (is (.pointer (some ⟨(s1 1), 1, none⟩))), gd (b.tab == d.tab) true (is (.slice x1 (d.panels.length) y1)), gd (b.tab == d.tab) true (iB (b.panels == d.panels)), iB ((b.tab == d.tab) && (b.panels == d.panels)), iB ((b.tab == d.tab) && (b.panels == d.panels)), gd ((b.tab == d.tab) && (b.panels == d.panels)) true (is (.pointer (some ⟨(s1 0), 2, none⟩))), gd ((b.tab == d.tab) && (b.panels == d.panels)) true (iI b.height), gd ((b.tab == d.tab) && (b.panels == d.panels)) true (is (.pointer (some ⟨(s1 1), 2, none⟩))), gd ((b.tab == d.tab) && (b.panels == d.panels)) true (iI d.height), gd ((b.tab == d.tab) && (b.panels == d.panels)) true (iB (b.height == d.height)), iB (((b.tab == d.tab) && (b.panels == d.panels)) && (b.height == d.height)), iB (((b.tab == d.tab) && (b.panels == d.panels)) && (b.height == d.height)), gd (((b.tab == d.tab) && (b.panels == d.panels)) && (b.height == d.height)) true (is (.pointer (some ⟨(s1 0), 3, none⟩))), gd (((b.tab == d.tab) && (b.panels == d.panels)) && (b.height == d.height)) true (is (.slice a2 (b.top.length) c2)), gd (((b.tab == d.tab) && (b.panels == d.panels)) && (b.height == d.height)) true (is (.pointer (some ⟨(s1 1), 3, none⟩))), gd (((b.tab == d.tab) && (b.panels == d.panels)) && (b.height == d.height)) true (is (.slice x2 (d.top.length) y2)), gd (((b.tab == d.tab) && (b.panels == d.panels)) && (b.height == d.height)) true (iB (b.top == d.top)), iB ((((b.tab == d.tab) && (b.panels == d.panels)) && (b.height == d.height)) && (b.top == d.top)), iB ((((b.tab == d.tab) && (b.panels == d.panels)) && (b.height == d.height)) && (b.top == d.top)), gd ((((b.tab == d.tab) && (b.panels == d.panels)) && (b.height == d.height)) && (b.top == d.top)) true (is (.pointer (some ⟨(s1 0), 4, none⟩))), gd ((((b.tab == d.tab) && (b.panels == d.panels)) && (b.height == d.height)) && (b.top == d.top)) true (is (.slice a3 (b.bottom.length) c3)), gd ((((b.tab == d.tab) && (b.panels == d.panels)) && (b.height == d.height)) && (b.top == d.top)) true (is (.pointer (some ⟨(s1 1), 4, none⟩))), gd ((((b.tab == d.tab) && (b.panels == d.panels)) && (b.height == d.height)) && (b.top == d.top)) true (is (.slice x3 (d.bottom.length) y3)), gd ((((b.tab == d.tab) && (b.panels == d.panels)) && (b.height == d.height)) && (b.top == d.top)) true (iB (b.bottom == d.bottom)), iB (((((b.tab == d.tab) && (b.panels == d.panels)) && (b.height == d.height)) && (b.top == d.top)) && (b.bottom == d.bottom)), iB (((((b.tab == d.tab) && (b.panels == d.panels)) && (b.height == d.height)) && (b.top == d.top)) && (b.bottom == d.bottom)), gd (((((b.tab == d.tab) && (b.panels == d.panels)) && (b.height == d.height)) && (b.top == d.top)) && (b.bottom == d.bottom)) true (is (.pointer (some ⟨(s1 0), 5, none⟩))), gd (((((b.tab == d.tab) && (b.panels == d.panels)) && (b.height == d.height)) && (b.top == d.top)) && (b.bottom == d.bottom)) true (iI b.slot), gd (((((b.tab == d.tab) && (b.panels == d.panels)) && (b.height == d.height)) && (b.top == d.top)) && (b.bottom == d.bottom)) true (is (.pointer (some ⟨(s1 1), 5, none⟩))), gd (((((b.tab == d.tab) && (b.panels == d.panels)) && (b.height == d.height)) && (b.top == d.top)) && (b.bottom == d.bottom)) true (iI d.slot), gd (((((b.tab == d.tab) && (b.panels == d.panels)) && (b.height == d.height)) && (b.top == d.top)) && (b.bottom == d.bottom)) true (iB (b.slot == d.slot)), iB ((((((b.tab == d.tab) && (b.panels == d.panels)) && (b.height == d.height)) && (b.top == d.top)) && (b.bottom == d.bottom)) && (b.slot == d.slot)), iB ((((((b.tab == d.tab) && (b.panels == d.panels)) && (b.height == d.height)) && (b.top == d.top)) && (b.bottom == d.bottom)) && (b.slot == d.slot)), gd ((((((b.tab == d.tab) && (b.panels == d.panels)) && (b.height == d.height)) && (b.top == d.top)) && (b.bottom == d.bottom)) && (b.slot == d.slot)) true (is (.pointer (some ⟨(s1 0), 6, none⟩))), gd ((((((b.tab == d.tab) && (b.panels == d.panels)) && (b.height == d.height)) && (b.top == d.top)) && (b.bottom == d.bottom)) && (b.slot == d.slot)) true (iB b.isOpen), gd ((((((b.tab == d.tab) && (b.panels == d.panels)) && (b.height == d.height)) && (b.top == d.top)) && (b.bottom == d.bottom)) && (b.slot == d.slot)) true (is (.pointer (some ⟨(s1 1), 6, none⟩))), gd ((((((b.tab == d.tab) && (b.panels == d.panels)) && (b.height == d.height)) && (b.top == d.top)) && (b.bottom == d.bottom)) && (b.slot == d.slot)) true (iB d.isOpen), gd ((((((b.tab == d.tab) && (b.panels == d.panels)) && (b.height == d.height)) && (b.top == d.top)) && (b.bottom == d.bottom)) && (b.slot == d.slot)) true (iB ((b.isOpen) == (d.isOpen))), iB (((((((b.tab == d.tab) && (b.panels == d.panels)) && (b.height == d.height)) && (b.top == d.top)) && (b.bottom == d.bottom)) && (b.slot == d.slot)) && ((b.isOpen) == (d.isOpen))), iB (((((((b.tab == d.tab) && (b.panels == d.panels)) && (b.height == d.height)) && (b.top == d.top)) && (b.bottom == d.bottom)) && (b.slot == d.slot)) && ((b.isOpen) == (d.isOpen)))])
  ⟨fun f s W i j k l a ha => opv rfl rfl (by simp [go_sem, ha.e 2 k1_2]) rfl,
  fun f s W i j k l a ha => opv rfl rfl (by simp [go_sem, ha.e 5 (j 0 rfl), cb br1_0 i 0]) rfl,
  fun f s W i j k l a ha => opv rfl rfl (by simp [go_sem, ha.e 3 k1_3]) rfl,
  fun f s W i j k l a ha => opv rfl rfl (by simp [go_sem, ha.e 7 (j 2 rfl), cb br1_1 i 0]) rfl,
  fun f s W i j k l a ha => opv rfl rfl (by simp [go_sem, ha.e 6 (j 1 rfl), ha.e 8 (j 3 rfl)]) rfl,
  fun f s W i j k l a ha => opm (ha.v 9 (j 4 rfl)),
  fun f s W i j k l a ha => gdo rfl rfl (ha.says (d := 10) rfl rfl (j 5 rfl)) fun hgd0 => gv (by simp [go_sem, ha.e 2 k1_2]) rfl,
  fun f s W i j k l a ha => gdo rfl rfl (ha.says (d := 10) rfl rfl (j 5 rfl)) fun hgd0 => gv (by simp [go_sem, ha.e 11 ((j 6 rfl).1 hgd0), cb br1_0 i 1]) rfl,
  fun f s W i j k l a ha => gdo rfl rfl (ha.says (d := 10) rfl rfl (j 5 rfl)) fun hgd0 => gv (by simp [go_sem, ha.e 3 k1_3]) rfl,
  fun f s W i j k l a ha => gdo rfl rfl (ha.says (d := 10) rfl rfl (j 5 rfl)) fun hgd0 => gv (by simp [go_sem, ha.e 13 ((j 8 rfl).1 hgd0), cb br1_1 i 1]) rfl,
  fun f s W i j k l a ha => gdo rfl rfl (ha.says (d := 10) rfl rfl (j 5 rfl)) fun hgd0 => by have m := bwt fB1 i; exact gc (args := #[.slice a1 (b.panels.length) c1, .slice x1 (d.panels.length) y1]) (by simp [go_sem, ha.e 12 ((j 7 rfl).1 hgd0), ha.e 14 ((j 9 rfl).1 hgd0)]) (intsEq_any _ _ b.panels _ _ d.panels W (h1.below m (Nat.le_refl _)) (m1.below m (Nat.le_refl _))),
  fun f s W i j k l a ha => opk (c := b.tab == d.tab) rfl rfl (fun hpk => by first | (simp [go_sem, hpk, ha.e 10 (j 5 rfl)]; done) | (have hpk' := hpk; simp at hpk'; simp [go_sem, hpk', hpk, ha.e 10 (j 5 rfl)])) (fun hpk => by first | (simp [go_sem, hpk, ha.e 10 (j 5 rfl), ha.e 15 ((j 10 rfl).1 hpk)]; done) | (have hpk' := hpk; simp at hpk'; simp [go_sem, hpk', hpk, ha.e 10 (j 5 rfl), ha.e 15 ((j 10 rfl).1 hpk)])),
  fun f s W i j k l a ha => opm (ha.v 16 (j 11 rfl)),
  fun f s W i j k l a ha => gdo rfl rfl (ha.says (d := 17) rfl rfl (j 12 rfl)) fun hgd0 => gv (by simp [go_sem, ha.e 2 k1_2]) rfl,
  fun f s W i j k l a ha => gdo rfl rfl (ha.says (d := 17) rfl rfl (j 12 rfl)) fun hgd0 => gv (by simp [go_sem, ha.e 18 ((j 13 rfl).1 hgd0), cb br1_0 i 2]) rfl,
  fun f s W i j k l a ha => gdo rfl rfl (ha.says (d := 17) rfl rfl (j 12 rfl)) fun hgd0 => gv (by simp [go_sem, ha.e 3 k1_3]) rfl,
  fun f s W i j k l a ha => gdo rfl rfl (ha.says (d := 17) rfl rfl (j 12 rfl)) fun hgd0 => gv (by simp [go_sem, ha.e 20 ((j 15 rfl).1 hgd0), cb br1_1 i 2]) rfl,
  fun f s W i j k l a ha => gdo rfl rfl (ha.says (d := 17) rfl rfl (j 12 rfl)) fun hgd0 => gv (by simp [go_sem, ha.e 19 ((j 14 rfl).1 hgd0), ha.e 21 ((j 16 rfl).1 hgd0)]) rfl,
  fun f s W i j k l a ha => opk (c := (b.tab == d.tab) && (b.panels == d.panels)) rfl rfl (fun hpk => by first | (simp [go_sem, hpk, ha.e 17 (j 12 rfl)]; done) | (have hpk' := hpk; simp at hpk'; simp [go_sem, hpk', hpk, ha.e 17 (j 12 rfl)])) (fun hpk => by first | (simp [go_sem, hpk, ha.e 17 (j 12 rfl), ha.e 22 ((j 17 rfl).1 hpk)]; done) | (have hpk' := hpk; simp at hpk'; simp [go_sem, hpk', hpk, ha.e 17 (j 12 rfl), ha.e 22 ((j 17 rfl).1 hpk)])),
  fun f s W i j k l a ha => opm (ha.v 23 (j 18 rfl)),
  fun f s W i j k l a ha => gdo rfl rfl (ha.says (d := 24) rfl rfl (j 19 rfl)) fun hgd0 => gv (by simp [go_sem, ha.e 2 k1_2]) rfl,
  fun f s W i j k l a ha => gdo rfl rfl (ha.says (d := 24) rfl rfl (j 19 rfl)) fun hgd0 => gv (by simp [go_sem, ha.e 25 ((j 20 rfl).1 hgd0), cb br1_0 i 3]) rfl,
  fun f s W i j k l a ha => gdo rfl rfl (ha.says (d := 24) rfl rfl (j 19 rfl)) fun hgd0 => gv (by simp [go_sem, ha.e 3 k1_3]) rfl,
  fun f s W i j k l a ha => gdo rfl rfl (ha.says (d := 24) rfl rfl (j 19 rfl)) fun hgd0 => gv (by simp [go_sem, ha.e 27 ((j 22 rfl).1 hgd0), cb br1_1 i 3]) rfl,
  fun f s W i j k l a ha => gdo rfl rfl (ha.says (d := 24) rfl rfl (j 19 rfl)) fun hgd0 => by have m := bwt fB1 i; exact gc (args := #[.slice a2 (b.top.length) c2, .slice x2 (d.top.length) y2]) (by simp [go_sem, ha.e 26 ((j 21 rfl).1 hgd0), ha.e 28 ((j 23 rfl).1 hgd0)]) (intsEq_any _ _ b.top _ _ d.top W (h2.below m (Nat.le_refl _)) (m2.below m (Nat.le_refl _))),
  fun f s W i j k l a ha => opk (c := ((b.tab == d.tab) && (b.panels == d.panels)) && (b.height == d.height)) rfl rfl (fun hpk => by first | (simp [go_sem, hpk, ha.e 24 (j 19 rfl)]; done) | (have hpk' := hpk; simp at hpk'; simp [go_sem, hpk', hpk, ha.e 24 (j 19 rfl)])) (fun hpk => by first | (simp [go_sem, hpk, ha.e 24 (j 19 rfl), ha.e 29 ((j 24 rfl).1 hpk)]; done) | (have hpk' := hpk; simp at hpk'; simp [go_sem, hpk', hpk, ha.e 24 (j 19 rfl), ha.e 29 ((j 24 rfl).1 hpk)])),
  fun f s W i j k l a ha => opm (ha.v 30 (j 25 rfl)),
  fun f s W i j k l a ha => gdo rfl rfl (ha.says (d := 31) rfl rfl (j 26 rfl)) fun hgd0 => gv (by simp [go_sem, ha.e 2 k1_2]) rfl,
  fun f s W i j k l a ha => gdo rfl rfl (ha.says (d := 31) rfl rfl (j 26 rfl)) fun hgd0 => gv (by simp [go_sem, ha.e 32 ((j 27 rfl).1 hgd0), cb br1_0 i 4]) rfl,
  fun f s W i j k l a ha => gdo rfl rfl (ha.says (d := 31) rfl rfl (j 26 rfl)) fun hgd0 => gv (by simp [go_sem, ha.e 3 k1_3]) rfl,
  fun f s W i j k l a ha => gdo rfl rfl (ha.says (d := 31) rfl rfl (j 26 rfl)) fun hgd0 => gv (by simp [go_sem, ha.e 34 ((j 29 rfl).1 hgd0), cb br1_1 i 4]) rfl,
  fun f s W i j k l a ha => gdo rfl rfl (ha.says (d := 31) rfl rfl (j 26 rfl)) fun hgd0 => by have m := bwt fB1 i; exact gc (args := #[.slice a3 (b.bottom.length) c3, .slice x3 (d.bottom.length) y3]) (by simp [go_sem, ha.e 33 ((j 28 rfl).1 hgd0), ha.e 35 ((j 30 rfl).1 hgd0)]) (intsEq_any _ _ b.bottom _ _ d.bottom W (h3.below m (Nat.le_refl _)) (m3.below m (Nat.le_refl _))),
  fun f s W i j k l a ha => opk (c := (((b.tab == d.tab) && (b.panels == d.panels)) && (b.height == d.height)) && (b.top == d.top)) rfl rfl (fun hpk => by first | (simp [go_sem, hpk, ha.e 31 (j 26 rfl)]; done) | (have hpk' := hpk; simp at hpk'; simp [go_sem, hpk', hpk, ha.e 31 (j 26 rfl)])) (fun hpk => by first | (simp [go_sem, hpk, ha.e 31 (j 26 rfl), ha.e 36 ((j 31 rfl).1 hpk)]; done) | (have hpk' := hpk; simp at hpk'; simp [go_sem, hpk', hpk, ha.e 31 (j 26 rfl), ha.e 36 ((j 31 rfl).1 hpk)])),
  fun f s W i j k l a ha => opm (ha.v 37 (j 32 rfl)),
  fun f s W i j k l a ha => gdo rfl rfl (ha.says (d := 38) rfl rfl (j 33 rfl)) fun hgd0 => gv (by simp [go_sem, ha.e 2 k1_2]) rfl,
  fun f s W i j k l a ha => gdo rfl rfl (ha.says (d := 38) rfl rfl (j 33 rfl)) fun hgd0 => gv (by simp [go_sem, ha.e 39 ((j 34 rfl).1 hgd0), cb br1_0 i 5]) rfl,
  fun f s W i j k l a ha => gdo rfl rfl (ha.says (d := 38) rfl rfl (j 33 rfl)) fun hgd0 => gv (by simp [go_sem, ha.e 3 k1_3]) rfl,
  fun f s W i j k l a ha => gdo rfl rfl (ha.says (d := 38) rfl rfl (j 33 rfl)) fun hgd0 => gv (by simp [go_sem, ha.e 41 ((j 36 rfl).1 hgd0), cb br1_1 i 5]) rfl,
  fun f s W i j k l a ha => gdo rfl rfl (ha.says (d := 38) rfl rfl (j 33 rfl)) fun hgd0 => gv (by simp [go_sem, ha.e 40 ((j 35 rfl).1 hgd0), ha.e 42 ((j 37 rfl).1 hgd0)]) rfl,
  fun f s W i j k l a ha => opk (c := ((((b.tab == d.tab) && (b.panels == d.panels)) && (b.height == d.height)) && (b.top == d.top)) && (b.bottom == d.bottom)) rfl rfl (fun hpk => by first | (simp [go_sem, hpk, ha.e 38 (j 33 rfl)]; done) | (have hpk' := hpk; simp at hpk'; simp [go_sem, hpk', hpk, ha.e 38 (j 33 rfl)])) (fun hpk => by first | (simp [go_sem, hpk, ha.e 38 (j 33 rfl), ha.e 43 ((j 38 rfl).1 hpk)]; done) | (have hpk' := hpk; simp at hpk'; simp [go_sem, hpk', hpk, ha.e 38 (j 33 rfl), ha.e 43 ((j 38 rfl).1 hpk)])),
  fun f s W i j k l a ha => opm (ha.v 44 (j 39 rfl)),
  fun f s W i j k l a ha => gdo rfl rfl (ha.says (d := 45) rfl rfl (j 40 rfl)) fun hgd0 => gv (by simp [go_sem, ha.e 2 k1_2]) rfl,
  fun f s W i j k l a ha => gdo rfl rfl (ha.says (d := 45) rfl rfl (j 40 rfl)) fun hgd0 => gv (by simp [go_sem, ha.e 46 ((j 41 rfl).1 hgd0), cb br1_0 i 6]) rfl,
  fun f s W i j k l a ha => gdo rfl rfl (ha.says (d := 45) rfl rfl (j 40 rfl)) fun hgd0 => gv (by simp [go_sem, ha.e 3 k1_3]) rfl,
  fun f s W i j k l a ha => gdo rfl rfl (ha.says (d := 45) rfl rfl (j 40 rfl)) fun hgd0 => gv (by simp [go_sem, ha.e 48 ((j 43 rfl).1 hgd0), cb br1_1 i 6]) rfl,
  fun f s W i j k l a ha => gdo rfl rfl (ha.says (d := 45) rfl rfl (j 40 rfl)) fun hgd0 => gv (by simp [go_sem, ha.e 47 ((j 42 rfl).1 hgd0), ha.e 49 ((j 44 rfl).1 hgd0)]) rfl,
  fun f s W i j k l a ha => opk (c := (((((b.tab == d.tab) && (b.panels == d.panels)) && (b.height == d.height)) && (b.top == d.top)) && (b.bottom == d.bottom)) && (b.slot == d.slot)) rfl rfl (fun hpk => by first | (simp [go_sem, hpk, ha.e 45 (j 40 rfl)]; done) | (have hpk' := hpk; simp at hpk'; simp [go_sem, hpk', hpk, ha.e 45 (j 40 rfl)])) (fun hpk => by first | (simp [go_sem, hpk, ha.e 45 (j 40 rfl), ha.e 50 ((j 45 rfl).1 hpk)]; done) | (have hpk' := hpk; simp at hpk'; simp [go_sem, hpk', hpk, ha.e 45 (j 40 rfl), ha.e 50 ((j 45 rfl).1 hpk)])),
  fun f s W i j k l a ha => opm (ha.v 51 (j 46 rfl)), trivial⟩ ?_
 intro f2 s2 W2 hB2 g2 hg2 z2
 have fB2 := hB2.f fB1
 have k2_4 := kt hg2 4 (hB2.is 47)
 refine wp_ret ?_
 refine leave_one (N := 52) (v := .bool (((((((b.tab == d.tab) && (b.panels == d.panels)) && (b.height == d.height)) && (b.top == d.top)) && (b.bottom == d.bottom)) && (b.slot == d.slot)) && ((b.isOpen) == (d.isOpen)))) (.inr rfl) Tryz.results15 rfl k2_4 ?_
 exact ⟨rfl, fB2⟩
theorem same_blk {w : World} {v u : Value} {b d : Bl} (hb : Blk w v b) (hd : Blk w u d) : Calls Tryz.prog 15 #[v, u] w fun e w' => e = .returned (.bool (sameB b d)) ∧ Below w.heap.size w w' := by
  obtain ⟨a1, n1, c1, a2, n2, c2, a3, n3, c3, rfl, h1, h2, h3⟩ := hb
  obtain ⟨e1, m1, f1, e2, m2, f2, e3, m3, f3, rfl, k1, k2, k3⟩ := hd
  obtain rfl := h1.1; obtain rfl := h2.1; obtain rfl := h3.1; obtain rfl := k1.1; obtain rfl := k2.1; obtain rfl := k3.1
  exact same_any a1 a2 a3 c1 c2 c3 b e1 e2 e3 f1 f2 f3 d w h1 h2 h3 k1 k2 k3
end Go.Proofs.YthnediamopehfaaGreat
