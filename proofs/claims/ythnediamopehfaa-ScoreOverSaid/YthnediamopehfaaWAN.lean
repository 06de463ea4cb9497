/- Part of the proof: what the claim leans on. -/
import Derived.Test.YthnediamopehfaaWAK
import Derived.Test.YthnediamopehfaaWAB
set_option linter.unusedSimpArgs false
set_option linter.unusedVariables false
namespace Go.Proofs.Ythnediamopehfaa
open Go.RowKit
def inB (n lo hi : Int) : Bool := decide (lo ≤ n) && decide (n ≤ hi)
theorem drop_end (xs : List Int) (k : Nat) (h : ¬ k < xs.length) : xs.drop k = [] := List.drop_eq_nil_of_le (by omega)
theorem drop_step (xs : List Int) (k : Nat) (h : k < xs.length) : xs.drop k = xs.getD k 0 :: xs.drop (k + 1) := by
  rw [List.drop_eq_getElem_cons h]
  simp [List.getD_eq_getElem?_getD, h]
set_option maxRecDepth 100000 in
set_option maxHeartbeats 400000 in
theorem intsEq_any (a : Option Addr) (c : Nat) (xs : List Int) (a2 : Option Addr) (c2 : Nat) (ys : List Int) (w : World) (hI : Ii w a xs.length c xs) (hJ : Ii w a2 ys.length c2 ys) :
  Calls Try.prog 15 #[.slice (a) (xs.length) (c), .slice (a2) (ys.length) (c2)] w (fun e w' => e = .returned (.bool (xs == ys)) ∧ Below w.heap.size w w') := by
 have hmx := hI.len_le
 have hmy := hJ.len_le
 refine calls_fr Try.func15 Try.ntmps15 rfl rfl fun g hg => ?_
 have k0 : g 0 = .slice (a) (xs.length) (c) := hg 0
 have k1 : g 1 = .slice (a2) (ys.length) (c2) := hg 1
 clear hg
 have fB0 : Below w.heap.size w w := Below.refl _ _
 refine wp_seq_k fun K1 hK1 => ?_
 refine region_dk 1 [(4, 0)] [[]] (rel [is (.bool false)])
  ⟨is_k, trivial⟩
  ⟨fun f s W d h i j a ha => opv rfl rfl (by simp [go_sem]) rfl, trivial⟩ ?_
 intro f1 s1 W1 hB1 g1 hg1
 have fB1 := hB1.f fB0
 have z1 := hB1.below.size
 refine hK1 _ _ ?_
 have k1_0 := kt hg1 0 k0
 have k1_1 := kt hg1 1 k1
 have k1_4 := kt hg1 4 (hB1.is 0)
 refine wp_seq_k fun K2 hK2 => ?_
 refine wp_seq_k fun K3 hK3 => ?_
 refine region_dk 5 [(6, 0), (7, 1), (8, 2), (9, 3), (10, 4)] [[], [0], [], [2], [0, 1, 2, 3]] (rel [is (.slice (a) (xs.length) (c)),
   is (.int .i64 ((xs.length : Int))),
   is (.slice (a2) (ys.length) (c2)),
   is (.int .i64 ((ys.length : Int))),
   is (.bool ((xs.length : Int) != (ys.length : Int)))])
  ⟨is_k, is_k, is_k, is_k, is_k, trivial⟩
  ⟨fun f s W d h i j a ha => opv rfl rfl (by simp [go_sem, ha.e 0 k1_0]) rfl,
  fun f s W d h i j a ha => opv rfl rfl (by simp [go_sem, ha.e 6 (h 0 rfl)]) rfl,
  fun f s W d h i j a ha => opv rfl rfl (by simp [go_sem, ha.e 1 k1_1]) rfl,
  fun f s W d h i j a ha => opv rfl rfl (by simp [go_sem, ha.e 8 (h 2 rfl)]) rfl,
  fun f s W d h i j a ha => opv rfl rfl (by simp [go_sem, ha.e 7 (h 1 rfl), ha.e 9 (h 3 rfl)]) rfl, trivial⟩ ?_
 intro f2 s2 W2 hB2 g2 hg2
 have fB2 := hB2.f fB1
 have z2 := hB2.below.size
 refine hK3 _ _ ?_
 have k2_0 := kt hg2 0 k1_0
 have k2_1 := kt hg2 1 k1_1
 have k2_4 := kt hg2 4 k1_4
 have k2_10 := kt hg2 10 (hB2.is 4)
 refine wp_cond_split (t := (xs.length : Int) != (ys.length : Int)) ((fr_eval rfl).trans k2_10) (fun hc4 => ?_) (fun hc4 => ?_)
 ·
  have hc4' := hc4; try simp only [ba] at hc4'
  refine wp_seq_k fun K5 hK5 => ?_
  refine region_dk 1 [(4, 0)] [[]] (rel [is (.bool false)])
   ⟨is_k, trivial⟩
   ⟨fun f s W d h i j a ha => opv rfl rfl (by simp [go_sem]) rfl, trivial⟩ ?_
  intro f3 s3 W3 hB3 g3 hg3
  have fB3 := hB3.f fB2
  have z3 := hB3.below.size
  refine hK5 _ _ ?_
  have k3_0 := kt hg3 0 k2_0
  have k3_1 := kt hg3 1 k2_1
  have k3_4 := kt hg3 4 (hB3.is 0)
  refine wp_ret ?_
  refine then_ret ?_
  refine leave_one (N := 26) (v := .bool false) (.inr rfl) Try.results15 rfl k3_4 ?_
  exact ⟨ret_bool (by have h' : xs ≠ ys := fun e => (by rw [e] at hc4'; omega); simpa using h'), fB3⟩
 ·
  have hc4' := hc4; try simp only [ba] at hc4'
  refine wp_skip ?_
  refine hK2 _ _ ?_
  refine wp_seq_k fun K6 hK6 => ?_
  refine wp_seq_k fun K7 hK7 => ?_
  refine region_dk 1 [(5, 0)] [[]] (rel [is (.int .i64 0)])
   ⟨is_k, trivial⟩
   ⟨fun f s W d h i j a ha => opv rfl rfl (by simp [go_sem]) rfl, trivial⟩ ?_
  intro f4 s4 W4 hB4 g4 hg4
  have fB4 := hB4.f fB2
  have z4 := hB4.below.size
  refine hK7 _ _ ?_
  have k4_0 := kt hg4 0 k2_0
  have k4_1 := kt hg4 1 k2_1
  have k4_4 := kt hg4 4 k2_4
  have k4_5 := kt hg4 5 (hB4.is 0)
  refine wp_block ?_
  refine wp_loop_n (fun m_ a_ W_ => ∃ g_ : Nat → Value, a_ = fr 26 g_ ∧ (∃ k : Nat, m_ = xs.length - k ∧ g_ 0 = .slice (a) (xs.length) (c) ∧ g_ 1 = .slice (a2) (ys.length) (c2) ∧ g_ 4 = .bool false ∧ g_ 5 = .int .i64 ((k : Int)) ∧ Below w.heap.size w W_ ∧ W4.heap.size ≤ W_.heap.size ∧ (xs.drop k == ys.drop k) = (xs == ys))) ⟨_, g4, rfl, 0, rfl, k4_0, k4_1, k4_4, k4_5.trans (by rfl), fB4, Nat.le_refl _, by simp⟩ ?_
  rintro _ _ W_2 ⟨g_2, rfl, k, rfl, k_2_0, k_2_1, k_2_4, k_2_5, fB_2, z_2, lp0⟩
  refine wp_seq_k fun K8 hK8 => ?_
  refine wp_seq_k fun K9 hK9 => ?_
  refine region_dk 4 [(11, 0), (12, 1), (13, 2), (14, 3)] [[], [], [1], [0, 1, 2]] (rel [is (.int .i64 ((k : Int))),
   is (.slice (a) (xs.length) (c)),
   is (.int .i64 ((xs.length : Int))),
   is (.bool (decide ((k : Int) < (xs.length : Int))))])
   ⟨is_k, is_k, is_k, is_k, trivial⟩
   ⟨fun f s W d h i j a ha => opv rfl rfl (by simp [go_sem, ha.e 5 k_2_5]) rfl,
  fun f s W d h i j a ha => opv rfl rfl (by simp [go_sem, ha.e 0 k_2_0]) rfl,
  fun f s W d h i j a ha => opv rfl rfl (by simp [go_sem, ha.e 12 (h 1 rfl)]) rfl,
  fun f s W d h i j a ha => opv rfl rfl (by simp [go_sem, ha.e 11 (h 0 rfl), ha.e 13 (h 2 rfl)]) rfl, trivial⟩ ?_
  intro f5 s5 W5 hB5 g5 hg5
  have fB5 := hB5.f fB_2
  have z5 := hB5.below.size
  refine hK9 _ _ ?_
  have k5_0 := kt hg5 0 k_2_0
  have k5_1 := kt hg5 1 k_2_1
  have k5_4 := kt hg5 4 k_2_4
  have k5_5 := kt hg5 5 k_2_5
  have k5_14 := kt hg5 14 (hB5.is 3)
  refine wp_cond_split (t := decide ((k : Int) < (xs.length : Int))) ((fr_eval rfl).trans k5_14) (fun hc10 => ?_) (fun hc10 => ?_)
  ·
   have hc10' := hc10; try simp only [ba] at hc10'
   have hlt : k < xs.length := by omega
   have hlt2 : k < ys.length := by omega
   obtain ⟨b, off, hab, hbl, hcl⟩ := hI.at (by omega)
   obtain ⟨b2, off2, hab2, hbl2, hcl2⟩ := hJ.at (by omega)
   refine wp_skip ?_
   refine hK8 _ _ ?_
   refine wp_seq_k fun K11 hK11 => ?_
   refine wp_block ?_
   refine wp_seq_k fun K12 hK12 => ?_
   refine region_dk 9 [(17, 0), (18, 1), (19, 2), (20, 3), (21, 4), (22, 5), (23, 6), (24, 7), (25, 8)] [[], [], [0, 1], [0, 1, 2], [], [], [4, 5], [4, 5, 6], [0, 1, 2, 3, 4, 5, 6, 7]] (rel [is (.slice (a) (xs.length) (c)),
   is (.int .i64 ((k : Int))),
   is (.pointer (some ⟨b, off + k, none⟩)),
   is (.int .i64 ((xs.getD k 0))),
   is (.slice (a2) (ys.length) (c2)),
   is (.int .i64 ((k : Int))),
   is (.pointer (some ⟨b2, off2 + k, none⟩)),
   is (.int .i64 ((ys.getD k 0))),
   is (.bool ((xs.getD k 0) != (ys.getD k 0)))])
    ⟨is_k, is_k, is_k, is_k, is_k, is_k, is_k, is_k, is_k, trivial⟩
    ⟨fun f s W d h i j a ha => opv rfl rfl (by simp [go_sem, ha.e 0 k5_0]) rfl,
  fun f s W d h i j a ha => opv rfl rfl (by simp [go_sem, ha.e 5 k5_5]) rfl,
  fun f s W d h i j a ha => opv rfl rfl (by simp [go_sem, ha.e 17 (h 0 rfl), ha.e 18 (h 1 rfl), hab, hlt]) rfl,
  fun f s W d h i j a ha => by have l := below_trans fB5 d; exact opv rfl rfl (by simp [go_sem, ha.e 19 (h 2 rfl), (l.cell (p := ⟨b, off + k, none⟩) hbl).trans (hcl k hlt)]) rfl,
  fun f s W d h i j a ha => opv rfl rfl (by simp [go_sem, ha.e 1 k5_1]) rfl,
  fun f s W d h i j a ha => opv rfl rfl (by simp [go_sem, ha.e 5 k5_5]) rfl,
  fun f s W d h i j a ha => opv rfl rfl (by simp [go_sem, ha.e 21 (h 4 rfl), ha.e 22 (h 5 rfl), hab2, hlt2]) rfl,
  fun f s W d h i j a ha => by have l := below_trans fB5 d; exact opv rfl rfl (by simp [go_sem, ha.e 23 (h 6 rfl), (l.cell (p := ⟨b2, off2 + k, none⟩) hbl2).trans (hcl2 k hlt2)]) rfl,
  fun f s W d h i j a ha => opv rfl rfl (by simp [go_sem, ha.e 20 (h 3 rfl), ha.e 24 (h 7 rfl)]) rfl, trivial⟩ ?_
   intro f6 s6 W6 hB6 g6 hg6
   have fB6 := hB6.f fB5
   have z6 := hB6.below.size
   refine hK12 _ _ ?_
   have k6_0 := kt hg6 0 k5_0
   have k6_1 := kt hg6 1 k5_1
   have k6_4 := kt hg6 4 k5_4
   have k6_5 := kt hg6 5 k5_5
   have k6_25 := kt hg6 25 (hB6.is 8)
   refine wp_cond_split (t := (xs.getD k 0) != (ys.getD k 0)) ((fr_eval rfl).trans k6_25) (fun hc13 => ?_) (fun hc13 => ?_)
   ·
    have hc13' := hc13; try simp only [ba] at hc13'
    refine wp_seq_k fun K14 hK14 => ?_
    refine region_dk 1 [(4, 0)] [[]] (rel [is (.bool false)])
     ⟨is_k, trivial⟩
     ⟨fun f s W d h i j a ha => opv rfl rfl (by simp [go_sem]) rfl, trivial⟩ ?_
    intro f7 s7 W7 hB7 g7 hg7
    have fB7 := hB7.f fB6
    have z7 := hB7.below.size
    refine hK14 _ _ ?_
    have k7_0 := kt hg7 0 k6_0
    have k7_1 := kt hg7 1 k6_1
    have k7_5 := kt hg7 5 k6_5
    have k7_4 := kt hg7 4 (hB7.is 0)
    refine wp_ret ?_
    refine inBlock_ret (then_ret (then_ret (inBlock_ret (then_ret ?_))))
    refine leave_one (N := 26) (v := .bool false) (.inr rfl) Try.results15 rfl k7_4 ?_
    exact ⟨ret_bool (by rw [← lp0, drop_step xs k hlt, drop_step ys k (by omega)]; simp only [List.cons_beq_cons]; have h' := hc13; simp only [bne, Bool.not_eq_true'] at h'; rw [h']; rfl), fB7⟩
   ·
    have hc13' := hc13; try simp only [ba] at hc13'
    refine wp_skip ?_
    refine inBlock_normal ?_
    refine hK11 _ _ ?_
    refine region_dk 3 [(15, 0), (16, 1), (5, 2)] [[], [0], [0, 1]] (rel [is (.int .i64 ((k : Int))),
   is (.int .i64 ((k : Int) + 1)),
   is (.int .i64 ((k : Int) + 1))])
     ⟨is_k, is_k, is_k, trivial⟩
     ⟨fun f s W d h i j a ha => opv rfl rfl (by simp [go_sem, ha.e 5 ((j 2 5 rfl rfl).trans k6_5)]) rfl,
  fun f s W d h i j a ha => opv rfl rfl (by simp [go_sem, ha.e 15 (h 0 rfl), IntWalk.i64_in ((k : Int) + 1) (by omega)]) rfl,
  fun f s W d h i j a ha => opv rfl rfl (by simp [go_sem, ha.e 16 (h 1 rfl)]) rfl, trivial⟩ ?_
    intro f8 s8 W8 hB8 g8 hg8
    have fB8 := hB8.f fB6
    have z8 := hB8.below.size
    refine wpOps_end ?_
    have k8_0 := kt hg8 0 k6_0
    have k8_1 := kt hg8 1 k6_1
    have k8_4 := kt hg8 4 k6_4
    have k8_5 := kt hg8 5 (hB8.is 2)
    refine then_normal ?_
    exact ⟨_, by omega, g8, rfl, k + 1, rfl, k8_0, k8_1, k8_4, k8_5.trans (by go_num), fB8, (by omega), by rw [← lp0, drop_step xs k hlt, drop_step ys k hlt2]; simp only [List.cons_beq_cons]; have h' := hc13; simp only [bne, Bool.not_eq_false'] at h'; rw [h']; rfl⟩
  ·
   have hc10' := hc10; try simp only [ba] at hc10'
   refine wp_exit ?_
   refine then_exit ?_
   refine then_exit ?_
   refine inBlock_at ?_
   refine hK6 _ _ ?_
   refine wp_seq_k fun K15 hK15 => ?_
   refine region_dk 1 [(4, 0)] [[]] (rel [is (.bool true)])
    ⟨is_k, trivial⟩
    ⟨fun f s W d h i j a ha => opv rfl rfl (by simp [go_sem]) rfl, trivial⟩ ?_
   intro f9 s9 W9 hB9 g9 hg9
   have fB9 := hB9.f fB5
   have z9 := hB9.below.size
   refine hK15 _ _ ?_
   have k9_4 := kt hg9 4 (hB9.is 0)
   refine wp_ret ?_
   refine leave_one (N := 26) (v := .bool true) (.inr rfl) Try.results15 rfl k9_4 ?_
   exact ⟨ret_bool (by rw [← lp0, drop_end xs k (by omega), drop_end ys k (by omega)]; rfl), fB9⟩
end Go.Proofs.Ythnediamopehfaa
