/- Part of the proof: what the claim leans on. -/
import Derived.Test.YthnediamopehfaaGreatZBF
import Derived.Test.YthnediamopehfaaGreatZBG
set_option linter.unusedSimpArgs false
set_option linter.unusedVariables false
namespace Go.Proofs.YthnediamopehfaaGreat
open Go.RowKit
def closesR (b : Bl) (w : Wi) (c : Int) : Bool := (List.range 10).all fun k => holdsR b w k c
theorem closesR_no {b : Bl} {w : Wi} {c : Int} {k : Nat} (hk : k < 10) (h : (!(holdsR b w k c)) = true) : closesR b w c = false := by
  unfold closesR
  rw [List.all_eq_false]
  exact ⟨k, List.mem_range.2 hk, by simpa using h⟩
theorem closesR_yes {b : Bl} {w : Wi} {c : Int} (h : ∀ j, j < 10 → holdsR b w j c = true) : closesR b w c = true := by
  unfold closesR
  rw [List.all_eq_true]
  exact fun j hj => h j (List.mem_range.1 hj)
theorem holds_all_step {b : Bl} {w : Wi} {c : Int} {k : Nat} (h : ∀ j, j < k → holdsR b w j c = true) (hk : (!(holdsR b w k c)) = false) : ∀ j, j < k + 1 → holdsR b w j c = true := fun j hj => by
  rcases Nat.lt_or_ge j k with h' | h'
  · exact h j h'
  · obtain rfl : j = k := by omega
    simpa using hk
set_option maxRecDepth 100000 in
set_option maxHeartbeats 2000000 in
theorem closesR_any (a1 a2 a3 : Option Addr) (c1 c2 c3 : Nat) (b : Bl) (l1 h1' l2 h2' l3 h3' l4 h4' l5 h5' : Int) (wo : Bool) (cal : Int) (w : World) (h1 : Ii w a1 b.panels.length c1 b.panels) (h2 : Ii w a2 b.top.length c2 b.top) (h3 : Ii w a3 b.bottom.length c3 b.bottom) (hck : checkErr b = 0) (hw : WishIn ⟨(l1, h1'), (l2, h2'), (l3, h3'), (l4, h4'), (l5, h5'), wo⟩) (gcl : 0 ≤ cal ∧ cal ≤ 100000) :
  Calls Tryz.prog 64 #[.agg #[.int .i64 b.tab, .slice (a1) (b.panels.length) (c1), .int .i64 b.height, .slice (a2) (b.top.length) (c2), .slice (a3) (b.bottom.length) (c3), .int .i64 b.slot, .bool b.isOpen], .agg #[.int .i64 l1, .int .i64 (h1'), .int .i64 l2, .int .i64 (h2'), .int .i64 l3, .int .i64 (h3'), .int .i64 l4, .int .i64 (h4'), .int .i64 l5, .int .i64 (h5'), .bool wo], .int .i64 cal] w (fun e w' => e = .returned (.bool (closesR b ⟨(l1, h1'), (l2, h2'), (l3, h3'), (l4, h4'), (l5, h5'), wo⟩ cal)) ∧ Below w.heap.size w w') := by
 refine calls_fr Tryz.func64 Tryz.ntmps64 rfl rfl fun g hg => ?_
 have k0 : g 0 = .agg #[.int .i64 b.tab, .slice (a1) (b.panels.length) (c1), .int .i64 b.height, .slice (a2) (b.top.length) (c2), .slice (a3) (b.bottom.length) (c3), .int .i64 b.slot, .bool b.isOpen] := hg 0
 have k1 : g 1 = .agg #[.int .i64 l1, .int .i64 (h1'), .int .i64 l2, .int .i64 (h2'), .int .i64 l3, .int .i64 (h3'), .int .i64 l4, .int .i64 (h4'), .int .i64 l5, .int .i64 (h5'), .bool wo] := hg 1
 have k2 : g 2 = .int .i64 cal := hg 2
 clear hg
 have fB0 : Below w.heap.size w w := Below.refl _ _
 refine wp_seq_k fun K1 hK1 => ?_
 refine region_dk 3 [(3, 0), (4, 1), (6, 2)] [[], [], []] (rel [bx 0 #[.int .i64 b.tab, .slice (a1) (b.panels.length) (c1), .int .i64 b.height, .slice (a2) (b.top.length) (c2), .slice (a3) (b.bottom.length) (c3), .int .i64 b.slot, .bool b.isOpen] 24,
   bx 1 #[.int .i64 l1, .int .i64 (h1'), .int .i64 l2, .int .i64 (h2'), .int .i64 l3, .int .i64 (h3'), .int .i64 l4, .int .i64 (h4'), .int .i64 l5, .int .i64 (h5'), .bool wo] 43,
   is (.bool false)])
  ⟨bx_k, bx_k, is_k, trivial⟩
  ⟨fun f s W c d h i l a => opb rfl rfl (by simp [go_sem, a.e 0 k0]),
  fun f s W c d h i l a => opb rfl rfl (by simp [go_sem, a.e 1 k1]),
  fun f s W c d h i l a => opv rfl rfl (by simp [go_sem]) rfl, trivial⟩ ?_
 intro f1 s1 W1 hB1 g1 hg1
 have fB1 := below_trans fB0 hB1.below
 have z1 := hB1.below.size
 obtain ⟨r1_0, br1_0⟩ := hB1.is 0
 have lr1_0 := hB1.lr 0 br1_0
 obtain ⟨r1_1, br1_1⟩ := hB1.is 1
 have lr1_1 := hB1.lr 1 br1_1
 have ne1_0_1 := hB1.nb 0 1
 refine hK1 _ _ ?_
 have k1_2 := kt hg1 2 k2
 have k1_3 := kt hg1 3 r1_0
 have k1_4 := kt hg1 4 r1_1
 have k1_6 := kt hg1 6 (hB1.is 2)
 refine wp_seq_k fun K2 hK2 => ?_
 refine wp_seq_k fun K3 hK3 => ?_
 refine region_dk 1 [(7, 0)] [[]] (rel [is (.int .i64 0)])
  ⟨is_k, trivial⟩
  ⟨fun f s W c d h i l a => opv rfl rfl (by simp [go_sem]) rfl, trivial⟩ ?_
 intro f2 s2 W2 hB2 g2 hg2
 have fB2 := below_trans fB1 hB2.below
 have z2 := hB2.below.size
 have b2_0 := blk_below br1_0 hB2.below
 have b2_1 := blk_below br1_1 hB2.below
 refine hK3 _ _ ?_
 have k2_2 := kt hg2 2 k1_2
 have k2_3 := kt hg2 3 k1_3
 have k2_4 := kt hg2 4 k1_4
 have k2_6 := kt hg2 6 k1_6
 have k2_7 := kt hg2 7 (hB2.is 0)
 refine wp_block ?_
 refine wp_loop_n (fun m_ a_ W_ => ∃ g_ : Nat → Value, a_ = fr 18 g_ ∧ (∃ k : Nat, m_ = 10 - k ∧ g_ 2 = .int .i64 cal ∧ g_ 3 = .pointer (some ⟨(s1 0), 0, none⟩) ∧ g_ 4 = .pointer (some ⟨(s1 1), 0, none⟩) ∧ g_ 6 = .bool false ∧ g_ 7 = .int .i64 ((k : Int)) ∧ Below w.heap.size w W_ ∧ W2.heap.size ≤ W_.heap.size ∧ W_.heap[(s1 0)]? = some (.cells #[.int .i64 b.tab, .slice (a1) (b.panels.length) (c1), .int .i64 b.height, .slice (a2) (b.top.length) (c2), .slice (a3) (b.bottom.length) (c3), .int .i64 b.slot, .bool b.isOpen] 24 (0, 0)) ∧ W_.heap[(s1 1)]? = some (.cells #[.int .i64 l1, .int .i64 (h1'), .int .i64 l2, .int .i64 (h2'), .int .i64 l3, .int .i64 (h3'), .int .i64 l4, .int .i64 (h4'), .int .i64 l5, .int .i64 (h5'), .bool wo] 43 (0, 0)) ∧ (k ≤ 10) ∧ (∀ j, j < k → holdsR b ⟨(l1, h1'), (l2, h2'), (l3, h3'), (l4, h4'), (l5, h5'), wo⟩ j cal = true))) ⟨_, g2, rfl, 0, rfl, k2_2, k2_3, k2_4, k2_6, k2_7.trans (by rfl), fB2, Nat.le_refl _, b2_0, b2_1, (by omega), (fun j hj => absurd hj (Nat.not_lt_zero j))⟩ ?_
 rintro _ _ W_1 ⟨g_1, rfl, k, rfl, k_1_2, k_1_3, k_1_4, k_1_6, k_1_7, fB_1, z_1, b_1_0, b_1_1, lp0, lp1⟩
 refine wp_seq_k fun K4 hK4 => ?_
 refine wp_seq_k fun K5 hK5 => ?_
 refine region_dk 2 [(8, 0), (9, 1)] [[], [0]] (rel [is (.int .i64 ((k : Int))),
   is (.bool (decide ((k : Int) < 10)))])
  ⟨is_k, is_k, trivial⟩
  ⟨fun f s W c d h i l a => opv rfl rfl (by simp [go_sem, a.e 7 k_1_7]) rfl,
  fun f s W c d h i l a => opv rfl rfl (by simp [go_sem, a.e 8 (d 0 rfl)]) rfl, trivial⟩ ?_
 intro f3 s3 W3 hB3 g3 hg3
 have fB3 := below_trans fB_1 hB3.below
 have z3 := hB3.below.size
 have b3_0 := blk_below b_1_0 hB3.below
 have b3_1 := blk_below b_1_1 hB3.below
 refine hK5 _ _ ?_
 have k3_2 := kt hg3 2 k_1_2
 have k3_3 := kt hg3 3 k_1_3
 have k3_4 := kt hg3 4 k_1_4
 have k3_6 := kt hg3 6 k_1_6
 have k3_7 := kt hg3 7 k_1_7
 have k3_9 := kt hg3 9 (hB3.is 1)
 refine wp_cond_split (t := decide ((k : Int) < 10)) ((fr_eval rfl).trans k3_9) (fun hc6 => ?_) (fun hc6 => ?_)
 ·
  have hc6' := hc6; try simp only [decide_eq_true_eq, decide_eq_false_iff_not, Bool.and_eq_true, Bool.or_eq_true, Bool.and_eq_false_iff, Bool.or_eq_false_iff, beq_iff_eq, bne_iff_ne, Bool.not_eq_true', Bool.not_eq_false', ne_eq, bne_eq_false_iff_eq, beq_eq_false_iff_ne] at hc6'
  refine wp_skip ?_
  refine hK4 _ _ ?_
  refine wp_seq_k fun K7 hK7 => ?_
  refine wp_block ?_
  refine wp_seq_k fun K8 hK8 => ?_
  refine region_dk 6 [(12, 0), (13, 1), (14, 2), (15, 3), (16, 4), (17, 5)] [[], [], [], [], [0, 1, 2, 3], [0, 1, 2, 3, 4]] (rel [is (.agg #[.int .i64 b.tab, .slice (a1) (b.panels.length) (c1), .int .i64 b.height, .slice (a2) (b.top.length) (c2), .slice (a3) (b.bottom.length) (c3), .int .i64 b.slot, .bool b.isOpen]),
   is (.agg #[.int .i64 l1, .int .i64 (h1'), .int .i64 l2, .int .i64 (h2'), .int .i64 l3, .int .i64 (h3'), .int .i64 l4, .int .i64 (h4'), .int .i64 l5, .int .i64 (h5'), .bool wo]),
   is (.int .i64 ((k : Int))),
   is (.int .i64 cal),
   is (.bool (holdsR b ⟨(l1, h1'), (l2, h2'), (l3, h3'), (l4, h4'), (l5, h5'), wo⟩ k cal)),
   is (.bool (!(holdsR b ⟨(l1, h1'), (l2, h2'), (l3, h3'), (l4, h4'), (l5, h5'), wo⟩ k cal)))])
   ⟨is_k, is_k, is_k, is_k, is_k, is_k, trivial⟩
   ⟨fun f s W c d h i l a => opv rfl rfl (by simp [go_sem, a.e 3 k3_3, Joins.cell_of_block (blk_below b3_0 c) 0, Joins.cell_of_block (blk_below b3_0 c) 1, Joins.cell_of_block (blk_below b3_0 c) 2, Joins.cell_of_block (blk_below b3_0 c) 3, Joins.cell_of_block (blk_below b3_0 c) 4, Joins.cell_of_block (blk_below b3_0 c) 5, Joins.cell_of_block (blk_below b3_0 c) 6]) rfl,
  fun f s W c d h i l a => opv rfl rfl (by simp [go_sem, a.e 4 k3_4, Joins.cell_of_block (blk_below b3_1 c) 0, Joins.cell_of_block (blk_below b3_1 c) 1, Joins.cell_of_block (blk_below b3_1 c) 2, Joins.cell_of_block (blk_below b3_1 c) 3, Joins.cell_of_block (blk_below b3_1 c) 4, Joins.cell_of_block (blk_below b3_1 c) 5, Joins.cell_of_block (blk_below b3_1 c) 6, Joins.cell_of_block (blk_below b3_1 c) 7, Joins.cell_of_block (blk_below b3_1 c) 8, Joins.cell_of_block (blk_below b3_1 c) 9, Joins.cell_of_block (blk_below b3_1 c) 10]) rfl,
  fun f s W c d h i l a => opv rfl rfl (by simp [go_sem, a.e 7 k3_7]) rfl,
  fun f s W c d h i l a => opv rfl rfl (by simp [go_sem, a.e 2 k3_2]) rfl,
  fun f s W c d h i l a => by have m := below_trans fB3 c; exact opc rfl rfl (by simp [go_sem, a.e 12 (d 0 rfl), a.e 13 (d 1 rfl), a.e 14 (d 2 rfl), a.e 15 (d 3 rfl)]) (holdsR_any a1 a2 a3 c1 c2 c3 b l1 h1' l2 h2' l3 h3' l4 h4' l5 h5' wo k cal W (h1.below m (Nat.le_refl _)) (h2.below m (Nat.le_refl _)) (h3.below m (Nat.le_refl _)) hck hw (by omega) (by omega)),
  fun f s W c d h i l a => opv rfl rfl (by simp [go_sem, a.e 16 (d 4 rfl)]) rfl, trivial⟩ ?_
  intro f4 s4 W4 hB4 g4 hg4
  have fB4 := below_trans fB3 hB4.below
  have z4 := hB4.below.size
  have b4_0 := blk_below b3_0 hB4.below
  have b4_1 := blk_below b3_1 hB4.below
  refine hK8 _ _ ?_
  have k4_2 := kt hg4 2 k3_2
  have k4_3 := kt hg4 3 k3_3
  have k4_4 := kt hg4 4 k3_4
  have k4_6 := kt hg4 6 k3_6
  have k4_7 := kt hg4 7 k3_7
  have k4_17 := kt hg4 17 (hB4.is 5)
  refine wp_cond_split (t := !(holdsR b ⟨(l1, h1'), (l2, h2'), (l3, h3'), (l4, h4'), (l5, h5'), wo⟩ k cal)) ((fr_eval rfl).trans k4_17) (fun hc9 => ?_) (fun hc9 => ?_)
  ·
   have hc9' := hc9; try simp only [decide_eq_true_eq, decide_eq_false_iff_not, Bool.and_eq_true, Bool.or_eq_true, Bool.and_eq_false_iff, Bool.or_eq_false_iff, beq_iff_eq, bne_iff_ne, Bool.not_eq_true', Bool.not_eq_false', ne_eq, bne_eq_false_iff_eq, beq_eq_false_iff_ne] at hc9'
   refine wp_seq_k fun K10 hK10 => ?_
   refine region_dk 1 [(6, 0)] [[]] (rel [is (.bool false)])
    ⟨is_k, trivial⟩
    ⟨fun f s W c d h i l a => opv rfl rfl (by simp [go_sem]) rfl, trivial⟩ ?_
   intro f5 s5 W5 hB5 g5 hg5
   have fB5 := below_trans fB4 hB5.below
   have z5 := hB5.below.size
   have b5_0 := blk_below b4_0 hB5.below
   have b5_1 := blk_below b4_1 hB5.below
   refine hK10 _ _ ?_
   have k5_2 := kt hg5 2 k4_2
   have k5_3 := kt hg5 3 k4_3
   have k5_4 := kt hg5 4 k4_4
   have k5_7 := kt hg5 7 k4_7
   have k5_6 := kt hg5 6 (hB5.is 0)
   refine wp_ret ?_
   refine inBlock_ret (then_ret (then_ret (inBlock_ret (then_ret ?_))))
   refine leave_one (N := 18) (v := .bool false) (.inr rfl) Tryz.results64 rfl k5_6 ?_
   exact ⟨by rw [closesR_no (by omega) hc9], fB5⟩
  ·
   have hc9' := hc9; try simp only [decide_eq_true_eq, decide_eq_false_iff_not, Bool.and_eq_true, Bool.or_eq_true, Bool.and_eq_false_iff, Bool.or_eq_false_iff, beq_iff_eq, bne_iff_ne, Bool.not_eq_true', Bool.not_eq_false', ne_eq, bne_eq_false_iff_eq, beq_eq_false_iff_ne] at hc9'
   refine wp_skip ?_
   refine inBlock_normal ?_
   refine hK7 _ _ ?_
   refine region_dk 3 [(10, 0), (11, 1), (7, 2)] [[], [0], [0, 1]] (rel [is (.int .i64 ((k : Int))),
   is (.int .i64 ((k : Int) + 1)),
   is (.int .i64 ((k : Int) + 1))])
    ⟨is_k, is_k, is_k, trivial⟩
    ⟨fun f s W c d h i l a => opv rfl rfl (by simp [go_sem, a.e 7 ((i 2 7 rfl rfl).trans k4_7)]) rfl,
  fun f s W c d h i l a => opv rfl rfl (by simp [go_sem, a.e 10 (d 0 rfl), IntWalk.i64_in ((k : Int) + 1) (by omega)]) rfl,
  fun f s W c d h i l a => opv rfl rfl (by simp [go_sem, a.e 11 (d 1 rfl)]) rfl, trivial⟩ ?_
   intro f6 s6 W6 hB6 g6 hg6
   have fB6 := below_trans fB4 hB6.below
   have z6 := hB6.below.size
   have b6_0 := blk_below b4_0 hB6.below
   have b6_1 := blk_below b4_1 hB6.below
   refine wpOps_end ?_
   have k6_2 := kt hg6 2 k4_2
   have k6_3 := kt hg6 3 k4_3
   have k6_4 := kt hg6 4 k4_4
   have k6_6 := kt hg6 6 k4_6
   have k6_7 := kt hg6 7 (hB6.is 2)
   refine then_normal ?_
   exact ⟨_, by omega, g6, rfl, k + 1, rfl, k6_2, k6_3, k6_4, k6_6, k6_7.trans (by go_num), fB6, (by omega), b6_0, b6_1, (by omega), (holds_all_step lp1 hc9)⟩
 ·
  have hc6' := hc6; try simp only [decide_eq_true_eq, decide_eq_false_iff_not, Bool.and_eq_true, Bool.or_eq_true, Bool.and_eq_false_iff, Bool.or_eq_false_iff, beq_iff_eq, bne_iff_ne, Bool.not_eq_true', Bool.not_eq_false', ne_eq, bne_eq_false_iff_eq, beq_eq_false_iff_ne] at hc6'
  refine wp_exit ?_
  refine then_exit ?_
  refine then_exit ?_
  refine inBlock_at ?_
  refine hK2 _ _ ?_
  refine wp_seq_k fun K11 hK11 => ?_
  refine region_dk 1 [(6, 0)] [[]] (rel [is (.bool true)])
   ⟨is_k, trivial⟩
   ⟨fun f s W c d h i l a => opv rfl rfl (by simp [go_sem]) rfl, trivial⟩ ?_
  intro f7 s7 W7 hB7 g7 hg7
  have fB7 := below_trans fB3 hB7.below
  have z7 := hB7.below.size
  have b7_0 := blk_below b3_0 hB7.below
  have b7_1 := blk_below b3_1 hB7.below
  refine hK11 _ _ ?_
  have k7_6 := kt hg7 6 (hB7.is 0)
  refine wp_ret ?_
  refine leave_one (N := 18) (v := .bool true) (.inr rfl) Tryz.results64 rfl k7_6 ?_
  obtain rfl : k = 10 := by omega
  exact ⟨by rw [closesR_yes lp1], fB7⟩
def firstB (f : Int → Bool) : Nat → Int → Option Int
  | 0, _ => none
  | n + 1, c => if f c = true then firstB f n (c + 1) else some c
theorem firstB_some {f : Int → Bool} {c : Int} (hc : f c = false) : ∀ (n : Nat) (lo : Int), (∀ d, lo ≤ d → d < c → f d = true) → lo ≤ c → c < lo + n → firstB f n lo = some c
  | 0, lo, _, h1, h2 => by omega
  | n + 1, lo, h, h1, h2 => by
    unfold firstB
    by_cases e : lo = c
    · subst e; rw [if_neg (by rw [hc]; exact Bool.false_ne_true)]
    · rw [if_pos (h lo (Int.le_refl _) (by omega))]
      exact firstB_some hc n (lo + 1) (fun d h3 h4 => h d (by omega) h4) (by omega) (by omega)
theorem firstB_none {f : Int → Bool} : ∀ (n : Nat) (lo : Int), (∀ d, lo ≤ d → d < lo + n → f d = true) → firstB f n lo = none
  | 0, lo, _ => rfl
  | n + 1, lo, h => by
    unfold firstB
    rw [if_pos (h lo (Int.le_refl _) (by omega))]
    exact firstB_none n (lo + 1) fun d h3 h4 => h d (by omega) (by omega)
def badR (b : Bl) (w : Wi) (s : Sp) (k : Nat) : Option (Int × Int) := (firstB (holdsR b w k) (s.2 + 1 - s.1).toNat s.1).map fun c => ((k : Int), c)
def closeRTo (b : Bl) (w : Wi) (s : Sp) (n : Nat) : List (Int × Int) := (List.range n).filterMap (badR b w s)
def closeR (b : Bl) (w : Wi) (s : Sp) : List (Int × Int) := closeRTo b w s 10
theorem closeRTo_succ (b : Bl) (w : Wi) (s : Sp) (n : Nat) : closeRTo b w s (n + 1) = closeRTo b w s n ++ (badR b w s n).toList := by
  unfold closeRTo
  rw [List.range_succ, List.filterMap_append]
  cases h : badR b w s n <;> simp [h]
theorem closeRTo_len (b : Bl) (w : Wi) (s : Sp) (n : Nat) : (closeRTo b w s n).length ≤ n := by
  unfold closeRTo
  have := List.length_filterMap_le (badR b w s) (List.range n)
  simpa using this
theorem close_hit {b : Bl} {w : Wi} {lo hi c : Int} {k : Nat} (h : ∀ d, lo ≤ d → d < c → holdsR b w k d = true) (h1 : lo ≤ c) (h2 : c ≤ hi) (hc : (!(holdsR b w k c)) = true) : closeRTo b w (lo, hi) k ++ [((k : Int), c)] = closeRTo b w (lo, hi) (k + 1) := by
  rw [closeRTo_succ, badR, firstB_some (c := c) (by simpa using hc) _ _ h h1 (by simp only; omega)]; rfl
theorem close_miss {b : Bl} {w : Wi} {lo hi c : Int} {k : Nat} (h : ∀ d, lo ≤ d → d < c → holdsR b w k d = true) (h1 : hi < c) : closeRTo b w (lo, hi) k = closeRTo b w (lo, hi) (k + 1) := by
  rw [closeRTo_succ, badR, firstB_none _ _ fun d h3 h4 => h d h3 (by simp only at h4; omega)]; simp
theorem up_step {b : Bl} {w : Wi} {lo c : Int} {k : Nat} (h : ∀ d, lo ≤ d → d < c → holdsR b w k d = true) (hk : (!(holdsR b w k c)) = false) : ∀ d, lo ≤ d → d < c + 1 → holdsR b w k d = true := fun d h1 h2 => by
  by_cases e : d = c
  · subst e; simpa using hk
  · exact h d h1 (by omega)
def PpP (xs : List (Int × Int)) (w : World) (e : Ending) (w' : World) : Prop := ∃ v, e = .returned v ∧ IsPp xs v w' ∧ Below w.heap.size w w'
set_option maxRecDepth 100000 in
set_option maxHeartbeats 4000000 in
theorem closeR_any (a1 a2 a3 : Option Addr) (c1 c2 c3 : Nat) (b : Bl) (l1 h1' l2 h2' l3 h3' l4 h4' l5 h5' : Int) (wo : Bool) (lo hi : Int) (w : World) (h1 : Ii w a1 b.panels.length c1 b.panels) (h2 : Ii w a2 b.top.length c2 b.top) (h3 : Ii w a3 b.bottom.length c3 b.bottom) (hck : checkErr b = 0) (hw : WishIn ⟨(l1, h1'), (l2, h2'), (l3, h3'), (l4, h4'), (l5, h5'), wo⟩) (gl : 0 ≤ lo) (gm : lo ≤ hi + 1) (gh' : hi ≤ 10000) :
  Calls Tryz.prog 27 #[.agg #[.int .i64 b.tab, .slice (a1) (b.panels.length) (c1), .int .i64 b.height, .slice (a2) (b.top.length) (c2), .slice (a3) (b.bottom.length) (c3), .int .i64 b.slot, .bool b.isOpen], .agg #[.int .i64 l1, .int .i64 (h1'), .int .i64 l2, .int .i64 (h2'), .int .i64 l3, .int .i64 (h3'), .int .i64 l4, .int .i64 (h4'), .int .i64 l5, .int .i64 (h5'), .bool wo], .agg #[.int .i64 lo, .int .i64 hi]] w (PpP (closeR b ⟨(l1, h1'), (l2, h2'), (l3, h3'), (l4, h4'), (l5, h5'), wo⟩ (lo, hi)) w) := by
 refine calls_fr Tryz.func27 Tryz.ntmps27 rfl rfl fun g hg => ?_
 have k0 : g 0 = .agg #[.int .i64 b.tab, .slice (a1) (b.panels.length) (c1), .int .i64 b.height, .slice (a2) (b.top.length) (c2), .slice (a3) (b.bottom.length) (c3), .int .i64 b.slot, .bool b.isOpen] := hg 0
 have k1 : g 1 = .agg #[.int .i64 l1, .int .i64 (h1'), .int .i64 l2, .int .i64 (h2'), .int .i64 l3, .int .i64 (h3'), .int .i64 l4, .int .i64 (h4'), .int .i64 l5, .int .i64 (h5'), .bool wo] := hg 1
 have k2 : g 2 = .agg #[.int .i64 lo, .int .i64 hi] := hg 2
 clear hg
 have fB0 : Below w.heap.size w w := Below.refl _ _
 refine wp_seq_k fun K1 hK1 => ?_
 refine region_dk 4 [(3, 0), (4, 1), (5, 2), (6, 3)] [[], [], [], []] (rel [bx 0 #[.int .i64 b.tab, .slice (a1) (b.panels.length) (c1), .int .i64 b.height, .slice (a2) (b.top.length) (c2), .slice (a3) (b.bottom.length) (c3), .int .i64 b.slot, .bool b.isOpen] 24,
   bx 1 #[.int .i64 l1, .int .i64 (h1'), .int .i64 l2, .int .i64 (h2'), .int .i64 l3, .int .i64 (h3'), .int .i64 l4, .int .i64 (h4'), .int .i64 l5, .int .i64 (h5'), .bool wo] 43,
   bx 2 #[.int .i64 lo, .int .i64 hi] 26,
   is (.slice (none) (0) (0))])
  ⟨bx_k, bx_k, bx_k, is_k, trivial⟩
  ⟨fun f s W i j l m n h => opb rfl rfl (by simp [go_sem, h.e 0 k0]),
  fun f s W i j l m n h => opb rfl rfl (by simp [go_sem, h.e 1 k1]),
  fun f s W i j l m n h => opb rfl rfl (by simp [go_sem, h.e 2 k2]),
  fun f s W i j l m n h => opv rfl rfl (by simp [go_sem]) rfl, trivial⟩ ?_
 intro f1 s1 W1 hB1 g1 hg1
 have fB1 := below_trans fB0 hB1.below
 have z1 := hB1.below.size
 obtain ⟨r1_0, br1_0⟩ := hB1.is 0
 have lr1_0 := hB1.lr 0 br1_0
 obtain ⟨r1_1, br1_1⟩ := hB1.is 1
 have lr1_1 := hB1.lr 1 br1_1
 obtain ⟨r1_2, br1_2⟩ := hB1.is 2
 have lr1_2 := hB1.lr 2 br1_2
 have ne1_0_1 := hB1.nb 0 1
 have ne1_0_2 := hB1.nb 0 2
 have ne1_1_2 := hB1.nb 1 2
 refine hK1 _ _ ?_
 have k1_3 := kt hg1 3 r1_0
 have k1_4 := kt hg1 4 r1_1
 have k1_5 := kt hg1 5 r1_2
 have k1_6 := kt hg1 6 (hB1.is 3)
 refine wp_seq_k fun K2 hK2 => ?_
 refine region_dk 2 [(10, 0), (7, 1)] [[], [0]] (rel [row 0 0 #[] 55,
   isS fun s => .slice (some ⟨(s 0), 0, none⟩) (0) (0)])
  ⟨row_k, isS_k fun s s' e => by rw [e 0 (by simp)], trivial⟩
  ⟨fun f s W i j l m n h => opr rfl rfl (by simp [go_sem]),
  fun f s W i j l m n h => opv rfl rfl (by simp [go_sem, h.e 10 (j 0 rfl).1, upd]) rfl, trivial⟩ ?_
 intro f2 s2 W2 hB2 g2 hg2
 have fB2 := below_trans fB1 hB2.below
 have z2 := hB2.below.size
 have b2_0 := blk_below br1_0 hB2.below
 have b2_1 := blk_below br1_1 hB2.below
 have b2_2 := blk_below br1_2 hB2.below
 obtain ⟨r2_0, br2_0⟩ := hB2.is 0
 have lr2_0 := hB2.lr 0 br2_0
 refine hK2 _ _ ?_
 have k2_3 := kt hg2 3 k1_3
 have k2_4 := kt hg2 4 k1_4
 have k2_5 := kt hg2 5 k1_5
 have k2_6 := kt hg2 6 k1_6
 have k2_7 := kt hg2 7 (hB2.is 1)
 have ow0 : OwnV 55 2 W1.heap.size (pps (closeRTo b ⟨(l1, h1'), (l2, h2'), (l3, h3'), (l4, h4'), (l5, h5'), wo⟩ (lo, hi) 0)) (closeRTo b ⟨(l1, h1'), (l2, h2'), (l3, h3'), (l4, h4'), (l5, h5'), wo⟩ (lo, hi) 0).length (some ⟨(s2 0), 0, none⟩) 0 W2 := ownV_block (T := 55) (z := 2) (B := W1.heap.size) br2_0 (by omega)
 refine wp_seq_k fun K3 hK3 => ?_
 refine wp_seq_k fun K4 hK4 => ?_
 refine region_dk 1 [(8, 0)] [[]] (rel [is (.int .i64 0)])
  ⟨is_k, trivial⟩
  ⟨fun f s W i j l m n h => opv rfl rfl (by simp [go_sem]) rfl, trivial⟩ ?_
 intro f3 s3 W3 hB3 g3 hg3
 have fB3 := below_trans fB2 hB3.below
 have z3 := hB3.below.size
 have b3_0 := blk_below b2_0 hB3.below
 have b3_1 := blk_below b2_1 hB3.below
 have b3_2 := blk_below b2_2 hB3.below
 have q2' := (ow0.below hB3.below)
 refine hK4 _ _ ?_
 have k3_3 := kt hg3 3 k2_3
 have k3_4 := kt hg3 4 k2_4
 have k3_5 := kt hg3 5 k2_5
 have k3_6 := kt hg3 6 k2_6
 have k3_7 := kt hg3 7 k2_7
 have k3_8 := kt hg3 8 (hB3.is 0)
 refine wp_block ?_
 refine wp_loop_n (fun m_ a_ W_ => ∃ g_ : Nat → Value, a_ = fr 36 g_ ∧ (∃ k : Nat, ∃ a : Option Addr, ∃ cc : Nat, m_ = 10 - k ∧ g_ 3 = .pointer (some ⟨(s1 0), 0, none⟩) ∧ g_ 4 = .pointer (some ⟨(s1 1), 0, none⟩) ∧ g_ 5 = .pointer (some ⟨(s1 2), 0, none⟩) ∧ g_ 6 = .slice (none) (0) (0) ∧ g_ 8 = .int .i64 ((k : Int)) ∧ g_ 7 = .slice (a) ((closeRTo b ⟨(l1, h1'), (l2, h2'), (l3, h3'), (l4, h4'), (l5, h5'), wo⟩ (lo, hi) k).length) (cc) ∧ Below w.heap.size w W_ ∧ W3.heap.size ≤ W_.heap.size ∧ W_.heap[(s1 0)]? = some (.cells #[.int .i64 b.tab, .slice (a1) (b.panels.length) (c1), .int .i64 b.height, .slice (a2) (b.top.length) (c2), .slice (a3) (b.bottom.length) (c3), .int .i64 b.slot, .bool b.isOpen] 24 (0, 0)) ∧ W_.heap[(s1 1)]? = some (.cells #[.int .i64 l1, .int .i64 (h1'), .int .i64 l2, .int .i64 (h2'), .int .i64 l3, .int .i64 (h3'), .int .i64 l4, .int .i64 (h4'), .int .i64 l5, .int .i64 (h5'), .bool wo] 43 (0, 0)) ∧ W_.heap[(s1 2)]? = some (.cells #[.int .i64 lo, .int .i64 hi] 26 (0, 0)) ∧ OwnV 55 2 W1.heap.size (pps (closeRTo b ⟨(l1, h1'), (l2, h2'), (l3, h3'), (l4, h4'), (l5, h5'), wo⟩ (lo, hi) k)) ((closeRTo b ⟨(l1, h1'), (l2, h2'), (l3, h3'), (l4, h4'), (l5, h5'), wo⟩ (lo, hi) k).length) a cc W_ ∧ (k ≤ 10))) ⟨_, g3, rfl, 0, _, _, rfl, k3_3, k3_4, k3_5, k3_6, k3_8.trans (by rfl), k3_7.trans (by rfl), fB3, Nat.le_refl _, b3_0, b3_1, b3_2, q2', (by omega)⟩ ?_
 rintro _ _ W_3 ⟨g_3, rfl, k, a, cc, rfl, k_3_3, k_3_4, k_3_5, k_3_6, k_3_8, k_3_7, fB_3, z_3, b_3_0, b_3_1, b_3_2, q4', lp0⟩
 refine wp_seq_k fun K5 hK5 => ?_
 refine wp_seq_k fun K6 hK6 => ?_
 refine region_dk 2 [(11, 0), (12, 1)] [[], [0]] (rel [is (.int .i64 ((k : Int))),
   is (.bool (decide ((k : Int) < 10)))])
  ⟨is_k, is_k, trivial⟩
  ⟨fun f s W i j l m n h => opv rfl rfl (by simp [go_sem, h.e 8 k_3_8]) rfl,
  fun f s W i j l m n h => opv rfl rfl (by simp [go_sem, h.e 11 (j 0 rfl)]) rfl, trivial⟩ ?_
 intro f4 s4 W4 hB4 g4 hg4
 have fB4 := below_trans fB_3 hB4.below
 have z4 := hB4.below.size
 have b4_0 := blk_below b_3_0 hB4.below
 have b4_1 := blk_below b_3_1 hB4.below
 have b4_2 := blk_below b_3_2 hB4.below
 have q5' := (q4'.below hB4.below)
 refine hK6 _ _ ?_
 have k4_3 := kt hg4 3 k_3_3
 have k4_4 := kt hg4 4 k_3_4
 have k4_5 := kt hg4 5 k_3_5
 have k4_6 := kt hg4 6 k_3_6
 have k4_8 := kt hg4 8 k_3_8
 have k4_7 := kt hg4 7 k_3_7
 have k4_12 := kt hg4 12 (hB4.is 1)
 refine wp_cond_split (t := decide ((k : Int) < 10)) ((fr_eval rfl).trans k4_12) (fun hc7 => ?_) (fun hc7 => ?_)
 ·
  have hc7' := hc7; try simp only [decide_eq_true_eq, decide_eq_false_iff_not, Bool.and_eq_true, Bool.or_eq_true, Bool.and_eq_false_iff, Bool.or_eq_false_iff, beq_iff_eq, bne_iff_ne, Bool.not_eq_true', Bool.not_eq_false', ne_eq, bne_eq_false_iff_eq, beq_eq_false_iff_ne] at hc7'
  refine wp_skip ?_
  refine hK5 _ _ ?_
  refine wp_seq_k fun K8 hK8 => ?_
  refine wp_block ?_
  refine wp_seq_k fun K9 hK9 => ?_
  refine region_dk 3 [(15, 0), (16, 1), (9, 2)] [[], [0], [0, 1]] (rel [is (.pointer (some ⟨(s1 2), 0, none⟩)),
   is (.int .i64 lo),
   is (.int .i64 lo)])
   ⟨is_k, is_k, is_k, trivial⟩
   ⟨fun f s W i j l m n h => opv rfl rfl (by simp [go_sem, h.e 5 k4_5]) rfl,
  fun f s W i j l m n h => opv rfl rfl (by simp [go_sem, h.e 15 (j 0 rfl), Joins.cell_of_block (blk_below b4_2 i) 0]) rfl,
  fun f s W i j l m n h => opv rfl rfl (by simp [go_sem, h.e 16 (j 1 rfl)]) rfl, trivial⟩ ?_
  intro f5 s5 W5 hB5 g5 hg5
  have fB5 := below_trans fB4 hB5.below
  have z5 := hB5.below.size
  have b5_0 := blk_below b4_0 hB5.below
  have b5_1 := blk_below b4_1 hB5.below
  have b5_2 := blk_below b4_2 hB5.below
  have q6' := (q5'.below hB5.below)
  refine hK9 _ _ ?_
  have k5_3 := kt hg5 3 k4_3
  have k5_4 := kt hg5 4 k4_4
  have k5_5 := kt hg5 5 k4_5
  have k5_6 := kt hg5 6 k4_6
  have k5_8 := kt hg5 8 k4_8
  have k5_7 := kt hg5 7 k4_7
  have k5_9 := kt hg5 9 (hB5.is 2)
  refine wp_block ?_
  refine wp_loop_n (fun m_ a_ W_ => ∃ g_ : Nat → Value, a_ = fr 36 g_ ∧ (∃ c : Int, m_ = (hi + 1 - c).toNat ∧ g_ 3 = .pointer (some ⟨(s1 0), 0, none⟩) ∧ g_ 4 = .pointer (some ⟨(s1 1), 0, none⟩) ∧ g_ 5 = .pointer (some ⟨(s1 2), 0, none⟩) ∧ g_ 6 = .slice (none) (0) (0) ∧ g_ 8 = .int .i64 ((k : Int)) ∧ g_ 7 = .slice (a) ((closeRTo b ⟨(l1, h1'), (l2, h2'), (l3, h3'), (l4, h4'), (l5, h5'), wo⟩ (lo, hi) k).length) (cc) ∧ g_ 9 = .int .i64 c ∧ Below w.heap.size w W_ ∧ W5.heap.size ≤ W_.heap.size ∧ W_.heap[(s1 0)]? = some (.cells #[.int .i64 b.tab, .slice (a1) (b.panels.length) (c1), .int .i64 b.height, .slice (a2) (b.top.length) (c2), .slice (a3) (b.bottom.length) (c3), .int .i64 b.slot, .bool b.isOpen] 24 (0, 0)) ∧ W_.heap[(s1 1)]? = some (.cells #[.int .i64 l1, .int .i64 (h1'), .int .i64 l2, .int .i64 (h2'), .int .i64 l3, .int .i64 (h3'), .int .i64 l4, .int .i64 (h4'), .int .i64 l5, .int .i64 (h5'), .bool wo] 43 (0, 0)) ∧ W_.heap[(s1 2)]? = some (.cells #[.int .i64 lo, .int .i64 hi] 26 (0, 0)) ∧ OwnV 55 2 W1.heap.size (pps (closeRTo b ⟨(l1, h1'), (l2, h2'), (l3, h3'), (l4, h4'), (l5, h5'), wo⟩ (lo, hi) k)) ((closeRTo b ⟨(l1, h1'), (l2, h2'), (l3, h3'), (l4, h4'), (l5, h5'), wo⟩ (lo, hi) k).length) a cc W_ ∧ (lo ≤ c) ∧ (c ≤ hi + 1) ∧ (∀ d, lo ≤ d → d < c → holdsR b ⟨(l1, h1'), (l2, h2'), (l3, h3'), (l4, h4'), (l5, h5'), wo⟩ k d = true))) ⟨_, g5, rfl, lo, rfl, k5_3, k5_4, k5_5, k5_6, k5_8, k5_7, k5_9.trans (by rfl), fB5, Nat.le_refl _, b5_0, b5_1, b5_2, q6', (Int.le_refl _), (by omega), (fun d h3 h4 => absurd h4 (by omega))⟩ ?_
  rintro _ _ W_7 ⟨g_7, rfl, c, rfl, k_7_3, k_7_4, k_7_5, k_7_6, k_7_8, k_7_7, k_7_9, fB_7, z_7, b_7_0, b_7_1, b_7_2, q8', mp0, mp1, mp2⟩
  refine wp_seq_k fun K10 hK10 => ?_
  refine wp_seq_k fun K11 hK11 => ?_
  refine region_dk 4 [(17, 0), (18, 1), (19, 2), (20, 3)] [[], [], [1], [0, 1, 2]] (rel [is (.int .i64 c),
   is (.pointer (some ⟨(s1 2), 1, none⟩)),
   is (.int .i64 hi),
   is (.bool (decide (c ≤ hi)))])
   ⟨is_k, is_k, is_k, is_k, trivial⟩
   ⟨fun f s W i j l m n h => opv rfl rfl (by simp [go_sem, h.e 9 k_7_9]) rfl,
  fun f s W i j l m n h => opv rfl rfl (by simp [go_sem, h.e 5 k_7_5]) rfl,
  fun f s W i j l m n h => opv rfl rfl (by simp [go_sem, h.e 18 (j 1 rfl), Joins.cell_of_block (blk_below b_7_2 i) 1]) rfl,
  fun f s W i j l m n h => opv rfl rfl (by simp [go_sem, h.e 17 (j 0 rfl), h.e 19 (j 2 rfl)]) rfl, trivial⟩ ?_
  intro f6 s6 W6 hB6 g6 hg6
  have fB6 := below_trans fB_7 hB6.below
  have z6 := hB6.below.size
  have b6_0 := blk_below b_7_0 hB6.below
  have b6_1 := blk_below b_7_1 hB6.below
  have b6_2 := blk_below b_7_2 hB6.below
  have q9' := (q8'.below hB6.below)
  refine hK11 _ _ ?_
  have k6_3 := kt hg6 3 k_7_3
  have k6_4 := kt hg6 4 k_7_4
  have k6_5 := kt hg6 5 k_7_5
  have k6_6 := kt hg6 6 k_7_6
  have k6_8 := kt hg6 8 k_7_8
  have k6_7 := kt hg6 7 k_7_7
  have k6_9 := kt hg6 9 k_7_9
  have k6_20 := kt hg6 20 (hB6.is 3)
  refine wp_cond_split (t := decide (c ≤ hi)) ((fr_eval rfl).trans k6_20) (fun hc12 => ?_) (fun hc12 => ?_)
  ·
   have hc12' := hc12; try simp only [decide_eq_true_eq, decide_eq_false_iff_not, Bool.and_eq_true, Bool.or_eq_true, Bool.and_eq_false_iff, Bool.or_eq_false_iff, beq_iff_eq, bne_iff_ne, Bool.not_eq_true', Bool.not_eq_false', ne_eq, bne_eq_false_iff_eq, beq_eq_false_iff_ne] at hc12'
   refine wp_skip ?_
   refine hK10 _ _ ?_
   refine wp_seq_k fun K13 hK13 => ?_
   refine wp_block ?_
   refine wp_seq_k fun K14 hK14 => ?_
   refine region_dk 6 [(23, 0), (24, 1), (25, 2), (26, 3), (27, 4), (28, 5)] [[], [], [], [], [0, 1, 2, 3], [0, 1, 2, 3, 4]] (rel [is (.agg #[.int .i64 b.tab, .slice (a1) (b.panels.length) (c1), .int .i64 b.height, .slice (a2) (b.top.length) (c2), .slice (a3) (b.bottom.length) (c3), .int .i64 b.slot, .bool b.isOpen]),
   is (.agg #[.int .i64 l1, .int .i64 (h1'), .int .i64 l2, .int .i64 (h2'), .int .i64 l3, .int .i64 (h3'), .int .i64 l4, .int .i64 (h4'), .int .i64 l5, .int .i64 (h5'), .bool wo]),
   is (.int .i64 ((k : Int))),
   is (.int .i64 c),
   is (.bool (holdsR b ⟨(l1, h1'), (l2, h2'), (l3, h3'), (l4, h4'), (l5, h5'), wo⟩ k c)),
   is (.bool (!(holdsR b ⟨(l1, h1'), (l2, h2'), (l3, h3'), (l4, h4'), (l5, h5'), wo⟩ k c)))])
    ⟨is_k, is_k, is_k, is_k, is_k, is_k, trivial⟩
    ⟨fun f s W i j l m n h => opv rfl rfl (by simp [go_sem, h.e 3 k6_3, Joins.cell_of_block (blk_below b6_0 i) 0, Joins.cell_of_block (blk_below b6_0 i) 1, Joins.cell_of_block (blk_below b6_0 i) 2, Joins.cell_of_block (blk_below b6_0 i) 3, Joins.cell_of_block (blk_below b6_0 i) 4, Joins.cell_of_block (blk_below b6_0 i) 5, Joins.cell_of_block (blk_below b6_0 i) 6]) rfl,
  fun f s W i j l m n h => opv rfl rfl (by simp [go_sem, h.e 4 k6_4, Joins.cell_of_block (blk_below b6_1 i) 0, Joins.cell_of_block (blk_below b6_1 i) 1, Joins.cell_of_block (blk_below b6_1 i) 2, Joins.cell_of_block (blk_below b6_1 i) 3, Joins.cell_of_block (blk_below b6_1 i) 4, Joins.cell_of_block (blk_below b6_1 i) 5, Joins.cell_of_block (blk_below b6_1 i) 6, Joins.cell_of_block (blk_below b6_1 i) 7, Joins.cell_of_block (blk_below b6_1 i) 8, Joins.cell_of_block (blk_below b6_1 i) 9, Joins.cell_of_block (blk_below b6_1 i) 10]) rfl,
  fun f s W i j l m n h => opv rfl rfl (by simp [go_sem, h.e 8 k6_8]) rfl,
  fun f s W i j l m n h => opv rfl rfl (by simp [go_sem, h.e 9 k6_9]) rfl,
  fun f s W i j l m n h => by have p := below_trans fB6 i; exact opc rfl rfl (by simp [go_sem, h.e 23 (j 0 rfl), h.e 24 (j 1 rfl), h.e 25 (j 2 rfl), h.e 26 (j 3 rfl)]) (holdsR_any a1 a2 a3 c1 c2 c3 b l1 h1' l2 h2' l3 h3' l4 h4' l5 h5' wo k c W (h1.below p (Nat.le_refl _)) (h2.below p (Nat.le_refl _)) (h3.below p (Nat.le_refl _)) hck hw (by omega) (by omega)),
  fun f s W i j l m n h => opv rfl rfl (by simp [go_sem, h.e 27 (j 4 rfl)]) rfl, trivial⟩ ?_
   intro f7 s7 W7 hB7 g7 hg7
   have fB7 := below_trans fB6 hB7.below
   have z7 := hB7.below.size
   have b7_0 := blk_below b6_0 hB7.below
   have b7_1 := blk_below b6_1 hB7.below
   have b7_2 := blk_below b6_2 hB7.below
   have q10' := (q9'.below hB7.below)
   refine hK14 _ _ ?_
   have k7_3 := kt hg7 3 k6_3
   have k7_4 := kt hg7 4 k6_4
   have k7_5 := kt hg7 5 k6_5
   have k7_6 := kt hg7 6 k6_6
   have k7_8 := kt hg7 8 k6_8
   have k7_7 := kt hg7 7 k6_7
   have k7_9 := kt hg7 9 k6_9
   have k7_28 := kt hg7 28 (hB7.is 5)
   refine wp_cond_split (t := !(holdsR b ⟨(l1, h1'), (l2, h2'), (l3, h3'), (l4, h4'), (l5, h5'), wo⟩ k c)) ((fr_eval rfl).trans k7_28) (fun hc15 => ?_) (fun hc15 => ?_)
   ·
    have hc15' := hc15; try simp only [decide_eq_true_eq, decide_eq_false_iff_not, Bool.and_eq_true, Bool.or_eq_true, Bool.and_eq_false_iff, Bool.or_eq_false_iff, beq_iff_eq, bne_iff_ne, Bool.not_eq_true', Bool.not_eq_false', ne_eq, bne_eq_false_iff_eq, beq_eq_false_iff_ne] at hc15'
    refine wp_seq_k fun K16 hK16 => ?_
    refine region_dk 5 [(29, 0), (30, 1), (31, 2), (32, 3), (33, 4), (34, 5), (7, 6)] [[], [], [], [1, 2], [1, 2, 3], [0, 1, 2, 3, 4], [0, 1, 2, 3, 4, 5]] (rel [is (.slice (a) ((closeRTo b ⟨(l1, h1'), (l2, h2'), (l3, h3'), (l4, h4'), (l5, h5'), wo⟩ (lo, hi) k).length) (cc)),
   is (.int .i64 ((k : Int))),
   is (.int .i64 c),
   is (.agg #[.int .i64 ((k : Int)), .int .i64 c]),
   row 4 1 #[.int .i64 ((k : Int)), .int .i64 c] 55])
     ⟨is_k, is_k, is_k, is_k, row_k, trivial⟩
     ⟨fun f s W i j l m n h => opv rfl rfl (by simp [go_sem, h.e 7 ((m 6 7 rfl rfl).trans k7_7)]) rfl,
  fun f s W i j l m n h => opv rfl rfl (by simp [go_sem, h.e 8 k7_8]) rfl,
  fun f s W i j l m n h => opv rfl rfl (by simp [go_sem, h.e 9 k7_9]) rfl,
  fun f s W i j l m n h => opv rfl rfl (by simp [go_sem, h.e 30 (j 1 rfl), h.e 31 (j 2 rfl)]) rfl,
  fun f s W i j l m n h => opr rfl rfl (by simp [go_sem, h.e 32 (j 3 rfl)]), trivial⟩ ?_
    intro f8 s8 W8 hB8 g8 hg8
    have fB8 := below_trans fB7 hB8.below
    have z8 := hB8.below.size
    have b8_0 := blk_below b7_0 hB8.below
    have b8_1 := blk_below b7_1 hB8.below
    have b8_2 := blk_below b7_2 hB8.below
    have q11' := (q10'.below hB8.below)
    obtain ⟨r8_4, br8_4⟩ := hB8.is 4
    have lr8_4 := hB8.lr 4 br8_4
    have k8_3 := kt hg8 3 k7_3
    have k8_4 := kt hg8 4 k7_4
    have k8_5 := kt hg8 5 k7_5
    have k8_6 := kt hg8 6 k7_6
    have k8_8 := kt hg8 8 k7_8
    have k8_9 := kt hg8 9 k7_9
    have k8_29 := kt hg8 29 (hB8.is 0)
    have k8_33 := kt hg8 33 r8_4
    obtain ⟨ga9, ca9, W9, ra9, ow9, ot9, z9, fB9⟩ := growV_tail 45 45 55 2 16 (.agg #[.int .i64 0, .int .i64 0]) Tryz.underlying45 (by kernel_rfl) rfl (c := cc) (pps (closeRTo b ⟨(l1, h1'), (l2, h2'), (l3, h3'), (l4, h4'), (l5, h5'), wo⟩ (lo, hi) (k + 1))) ((closeRTo b ⟨(l1, h1'), (l2, h2'), (l3, h3'), (l4, h4'), (l5, h5'), wo⟩ (lo, hi) (k + 1)).length) (k := 1) (c' := 1) [.int .i64 ((k : Int)), .int .i64 c] fB8 q11' (by rw [pps_snoc, close_hit mp2 mp0 (by omega) hc15]) (by rw [← close_hit mp2 mp0 (by omega) hc15]; simp) fB1.size rfl rfl (cells_at br8_4) (by have := closeRTo_len b ⟨(l1, h1'), (l2, h2'), (l3, h3'), (l4, h4'), (l5, h5'), wo⟩ (lo, hi) k; omega)
    refine tail_value2 (o := _) rfl rfl rfl (run_appendOp (fr_ev k8_29) (fr_ev k8_33) ra9) ?_
    have b9_0 := ot9 _ _ (by omega) b8_0
    have b9_1 := ot9 _ _ (by omega) b8_1
    have b9_2 := ot9 _ _ (by omega) b8_2
    generalize hg9 : upd g8 34 (.slice (some ⟨ga9, 0, none⟩) ((closeRTo b ⟨(l1, h1'), (l2, h2'), (l3, h3'), (l4, h4'), (l5, h5'), wo⟩ (lo, hi) (k + 1)).length) (ca9)) = g9
    have k9_3 := ku hg9 3 k8_3
    have k9_4 := ku hg9 4 k8_4
    have k9_5 := ku hg9 5 k8_5
    have k9_6 := ku hg9 6 k8_6
    have k9_8 := ku hg9 8 k8_8
    have k9_9 := ku hg9 9 k8_9
    have k9_34 := kt hg9 34 (upd_same _ _ _)
    refine tail_value (o := _) rfl rfl rfl (v := .slice (some ⟨ga9, 0, none⟩) ((closeRTo b ⟨(l1, h1'), (l2, h2'), (l3, h3'), (l4, h4'), (l5, h5'), wo⟩ (lo, hi) (k + 1)).length) (ca9)) (by simp [go_sem, frv 36 k9_34]) ?_
    generalize hg10 : upd g9 7 (.slice (some ⟨ga9, 0, none⟩) ((closeRTo b ⟨(l1, h1'), (l2, h2'), (l3, h3'), (l4, h4'), (l5, h5'), wo⟩ (lo, hi) (k + 1)).length) (ca9)) = g10
    have k10_3 := ku hg10 3 k9_3
    have k10_4 := ku hg10 4 k9_4
    have k10_5 := ku hg10 5 k9_5
    have k10_6 := ku hg10 6 k9_6
    have k10_8 := ku hg10 8 k9_8
    have k10_9 := ku hg10 9 k9_9
    have k10_7 := kt hg10 7 (upd_same _ _ _)
    refine wpOps_end ?_
    refine hK16 _ _ ?_
    refine wp_exit ?_
    refine inBlock_other rfl ?_
    refine then_exit ?_
    refine then_exit ?_
    refine inBlock_at ?_
    refine inBlock_normal ?_
    refine hK8 _ _ ?_
    refine region_dk 3 [(13, 0), (14, 1), (8, 2)] [[], [0], [0, 1]] (rel [is (.int .i64 ((k : Int))),
   is (.int .i64 ((k : Int) + 1)),
   is (.int .i64 ((k : Int) + 1))])
     ⟨is_k, is_k, is_k, trivial⟩
     ⟨fun f s W i j l m n h => opv rfl rfl (by simp [go_sem, h.e 8 ((m 2 8 rfl rfl).trans k10_8)]) rfl,
  fun f s W i j l m n h => opv rfl rfl (by simp [go_sem, h.e 13 (j 0 rfl), IntWalk.i64_in ((k : Int) + 1) (by omega)]) rfl,
  fun f s W i j l m n h => opv rfl rfl (by simp [go_sem, h.e 14 (j 1 rfl)]) rfl, trivial⟩ ?_
    intro f11 s11 W11 hB11 g11 hg11
    have fB11 := below_trans fB9 hB11.below
    have z11 := hB11.below.size
    have b11_0 := blk_below b9_0 hB11.below
    have b11_1 := blk_below b9_1 hB11.below
    have b11_2 := blk_below b9_2 hB11.below
    have q12' := (ow9.below hB11.below)
    refine wpOps_end ?_
    have k11_3 := kt hg11 3 k10_3
    have k11_4 := kt hg11 4 k10_4
    have k11_5 := kt hg11 5 k10_5
    have k11_6 := kt hg11 6 k10_6
    have k11_7 := kt hg11 7 k10_7
    have k11_8 := kt hg11 8 (hB11.is 2)
    refine then_normal ?_
    exact ⟨_, by omega, g11, rfl, k + 1, some ⟨ga9, 0, none⟩, ca9, rfl, k11_3, k11_4, k11_5, k11_6, k11_8.trans (by go_num), k11_7.trans (by go_num), fB11, (by omega), b11_0, b11_1, b11_2, q12', (by omega)⟩
   ·
    have hc15' := hc15; try simp only [decide_eq_true_eq, decide_eq_false_iff_not, Bool.and_eq_true, Bool.or_eq_true, Bool.and_eq_false_iff, Bool.or_eq_false_iff, beq_iff_eq, bne_iff_ne, Bool.not_eq_true', Bool.not_eq_false', ne_eq, bne_eq_false_iff_eq, beq_eq_false_iff_ne] at hc15'
    refine wp_skip ?_
    refine inBlock_normal ?_
    refine hK13 _ _ ?_
    refine region_dk 3 [(21, 0), (22, 1), (9, 2)] [[], [0], [0, 1]] (rel [is (.int .i64 c),
   is (.int .i64 (c + 1)),
   is (.int .i64 (c + 1))])
     ⟨is_k, is_k, is_k, trivial⟩
     ⟨fun f s W i j l m n h => opv rfl rfl (by simp [go_sem, h.e 9 ((m 2 9 rfl rfl).trans k7_9)]) rfl,
  fun f s W i j l m n h => opv rfl rfl (by simp [go_sem, h.e 21 (j 0 rfl), IntWalk.i64_in (c + 1) (by omega)]) rfl,
  fun f s W i j l m n h => opv rfl rfl (by simp [go_sem, h.e 22 (j 1 rfl)]) rfl, trivial⟩ ?_
    intro f12 s12 W12 hB12 g12 hg12
    have fB12 := below_trans fB7 hB12.below
    have z12 := hB12.below.size
    have b12_0 := blk_below b7_0 hB12.below
    have b12_1 := blk_below b7_1 hB12.below
    have b12_2 := blk_below b7_2 hB12.below
    have q13' := (q10'.below hB12.below)
    refine wpOps_end ?_
    have k12_3 := kt hg12 3 k7_3
    have k12_4 := kt hg12 4 k7_4
    have k12_5 := kt hg12 5 k7_5
    have k12_6 := kt hg12 6 k7_6
    have k12_8 := kt hg12 8 k7_8
    have k12_7 := kt hg12 7 k7_7
    have k12_9 := kt hg12 9 (hB12.is 2)
    refine then_normal ?_
    exact ⟨_, by omega, g12, rfl, c + 1, rfl, k12_3, k12_4, k12_5, k12_6, k12_8, k12_7, k12_9.trans (by go_num), fB12, (by omega), b12_0, b12_1, b12_2, q13', (by omega), (by omega), (up_step mp2 hc15)⟩
  ·
   have hc12' := hc12; try simp only [decide_eq_true_eq, decide_eq_false_iff_not, Bool.and_eq_true, Bool.or_eq_true, Bool.and_eq_false_iff, Bool.or_eq_false_iff, beq_iff_eq, bne_iff_ne, Bool.not_eq_true', Bool.not_eq_false', ne_eq, bne_eq_false_iff_eq, beq_eq_false_iff_ne] at hc12'
   refine wp_exit ?_
   refine then_exit ?_
   refine then_exit ?_
   refine inBlock_at ?_
   refine inBlock_normal ?_
   refine hK8 _ _ ?_
   refine region_dk 3 [(13, 0), (14, 1), (8, 2)] [[], [0], [0, 1]] (rel [is (.int .i64 ((k : Int))),
   is (.int .i64 ((k : Int) + 1)),
   is (.int .i64 ((k : Int) + 1))])
    ⟨is_k, is_k, is_k, trivial⟩
    ⟨fun f s W i j l m n h => opv rfl rfl (by simp [go_sem, h.e 8 ((m 2 8 rfl rfl).trans k6_8)]) rfl,
  fun f s W i j l m n h => opv rfl rfl (by simp [go_sem, h.e 13 (j 0 rfl), IntWalk.i64_in ((k : Int) + 1) (by omega)]) rfl,
  fun f s W i j l m n h => opv rfl rfl (by simp [go_sem, h.e 14 (j 1 rfl)]) rfl, trivial⟩ ?_
   intro f13 s13 W13 hB13 g13 hg13
   have fB13 := below_trans fB6 hB13.below
   have z13 := hB13.below.size
   have b13_0 := blk_below b6_0 hB13.below
   have b13_1 := blk_below b6_1 hB13.below
   have b13_2 := blk_below b6_2 hB13.below
   have q14' := (q9'.below hB13.below)
   refine wpOps_end ?_
   have k13_3 := kt hg13 3 k6_3
   have k13_4 := kt hg13 4 k6_4
   have k13_5 := kt hg13 5 k6_5
   have k13_6 := kt hg13 6 k6_6
   have k13_7 := kt hg13 7 k6_7
   have k13_8 := kt hg13 8 (hB13.is 2)
   refine then_normal ?_
   exact ⟨_, by omega, g13, rfl, k + 1, a, cc, rfl, k13_3, k13_4, k13_5, k13_6, k13_8.trans (by go_num), (by rw [← close_miss mp2 (by omega)]; exact k13_7), fB13, (by omega), b13_0, b13_1, b13_2, (by rw [← close_miss mp2 (by omega)]; exact q14'), (by omega)⟩
 ·
  have hc7' := hc7; try simp only [decide_eq_true_eq, decide_eq_false_iff_not, Bool.and_eq_true, Bool.or_eq_true, Bool.and_eq_false_iff, Bool.or_eq_false_iff, beq_iff_eq, bne_iff_ne, Bool.not_eq_true', Bool.not_eq_false', ne_eq, bne_eq_false_iff_eq, beq_eq_false_iff_ne] at hc7'
  refine wp_exit ?_
  refine then_exit ?_
  refine then_exit ?_
  refine inBlock_at ?_
  refine hK3 _ _ ?_
  refine wp_seq_k fun K17 hK17 => ?_
  refine region_dk 2 [(35, 0), (6, 1)] [[], [0]] (rel [is (.slice (a) ((closeRTo b ⟨(l1, h1'), (l2, h2'), (l3, h3'), (l4, h4'), (l5, h5'), wo⟩ (lo, hi) k).length) (cc)),
   is (.slice (a) ((closeRTo b ⟨(l1, h1'), (l2, h2'), (l3, h3'), (l4, h4'), (l5, h5'), wo⟩ (lo, hi) k).length) (cc))])
   ⟨is_k, is_k, trivial⟩
   ⟨fun f s W i j l m n h => opv rfl rfl (by simp [go_sem, h.e 7 k4_7]) rfl,
  fun f s W i j l m n h => opv rfl rfl (by simp [go_sem, h.e 35 (j 0 rfl)]) rfl, trivial⟩ ?_
  intro f14 s14 W14 hB14 g14 hg14
  have fB14 := below_trans fB4 hB14.below
  have z14 := hB14.below.size
  have b14_0 := blk_below b4_0 hB14.below
  have b14_1 := blk_below b4_1 hB14.below
  have b14_2 := blk_below b4_2 hB14.below
  have q15' := (q5'.below hB14.below)
  refine hK17 _ _ ?_
  have k14_6 := kt hg14 6 (hB14.is 1)
  refine wp_ret ?_
  refine leave_one (N := 36) (v := .slice (a) ((closeRTo b ⟨(l1, h1'), (l2, h2'), (l3, h3'), (l4, h4'), (l5, h5'), wo⟩ (lo, hi) k).length) (cc)) (.inr rfl) Tryz.results27 rfl k14_6 ?_
  obtain rfl : k = 10 := by omega
  exact ⟨_, rfl, ⟨_, _, rfl, q15'.pp⟩, fB14⟩
def calTo (b : Bl) (w : Wi) : Nat → Sp × Bool
  | 0 => ((0, 0), false)
  | n + 1 => if closesR b w ((n : Int) + 1) = true then ((if (calTo b w n).2 = true then (calTo b w n).1.1 else (n : Int) + 1, (n : Int) + 1), true) else calTo b w n
theorem calTo_skip {b : Bl} {w : Wi} {n : Nat} (h : (!(closesR b w ((n : Int) + 1))) = true) : calTo b w n = calTo b w (n + 1) := by
  rw [calTo, if_neg (by simpa using h)]
theorem calTo_first {b : Bl} {w : Wi} {n : Nat} (h : (!(closesR b w ((n : Int) + 1))) = false) (hf : (!(calTo b w n).2) = true) : calTo b w (n + 1) = (((n : Int) + 1, (n : Int) + 1), true) := by
  rw [calTo, if_pos (by simpa using h), if_neg (by simpa using hf)]
theorem calTo_more {b : Bl} {w : Wi} {n : Nat} (h : (!(closesR b w ((n : Int) + 1))) = false) (hf : (!(calTo b w n).2) = false) : calTo b w (n + 1) = (((calTo b w n).1.1, (n : Int) + 1), true) := by
  rw [calTo, if_pos (by simpa using h), if_pos (by simpa using hf)]
set_option maxRecDepth 100000 in
set_option maxHeartbeats 4000000 in
theorem calR_any (a1 a2 a3 : Option Addr) (c1 c2 c3 : Nat) (b : Bl) (l1 h1' l2 h2' l3 h3' l4 h4' l5 h5' : Int) (wo : Bool) (w : World) (h1 : Ii w a1 b.panels.length c1 b.panels) (h2 : Ii w a2 b.top.length c2 b.top) (h3 : Ii w a3 b.bottom.length c3 b.bottom) (hck : checkErr b = 0) (hw : WishIn ⟨(l1, h1'), (l2, h2'), (l3, h3'), (l4, h4'), (l5, h5'), wo⟩) :
  Calls Tryz.prog 26 #[.agg #[.int .i64 b.tab, .slice (a1) (b.panels.length) (c1), .int .i64 b.height, .slice (a2) (b.top.length) (c2), .slice (a3) (b.bottom.length) (c3), .int .i64 b.slot, .bool b.isOpen], .agg #[.int .i64 l1, .int .i64 (h1'), .int .i64 l2, .int .i64 (h2'), .int .i64 l3, .int .i64 (h3'), .int .i64 l4, .int .i64 (h4'), .int .i64 l5, .int .i64 (h5'), .bool wo]] w (fun e w' => e = .returned (.tuple #[.agg #[.int .i64 (calTo b ⟨(l1, h1'), (l2, h2'), (l3, h3'), (l4, h4'), (l5, h5'), wo⟩ 10000).1.1, .int .i64 (calTo b ⟨(l1, h1'), (l2, h2'), (l3, h3'), (l4, h4'), (l5, h5'), wo⟩ 10000).1.2], .bool (calTo b ⟨(l1, h1'), (l2, h2'), (l3, h3'), (l4, h4'), (l5, h5'), wo⟩ 10000).2]) ∧ Below w.heap.size w w') := by
 refine calls_fr Tryz.func26 Tryz.ntmps26 rfl rfl fun g hg => ?_
 have k0 : g 0 = .agg #[.int .i64 b.tab, .slice (a1) (b.panels.length) (c1), .int .i64 b.height, .slice (a2) (b.top.length) (c2), .slice (a3) (b.bottom.length) (c3), .int .i64 b.slot, .bool b.isOpen] := hg 0
 have k1 : g 1 = .agg #[.int .i64 l1, .int .i64 (h1'), .int .i64 l2, .int .i64 (h2'), .int .i64 l3, .int .i64 (h3'), .int .i64 l4, .int .i64 (h4'), .int .i64 l5, .int .i64 (h5'), .bool wo] := hg 1
 clear hg
 have fB0 : Below w.heap.size w w := Below.refl _ _
 refine wp_seq_k fun K1 hK1 => ?_
 refine region_dk 4 [(2, 0), (3, 1), (4, 2), (5, 3)] [[], [], [], []] (rel [bx 0 #[.int .i64 b.tab, .slice (a1) (b.panels.length) (c1), .int .i64 b.height, .slice (a2) (b.top.length) (c2), .slice (a3) (b.bottom.length) (c3), .int .i64 b.slot, .bool b.isOpen] 24,
   bx 1 #[.int .i64 l1, .int .i64 (h1'), .int .i64 l2, .int .i64 (h2'), .int .i64 l3, .int .i64 (h3'), .int .i64 l4, .int .i64 (h4'), .int .i64 l5, .int .i64 (h5'), .bool wo] 43,
   bx 2 #[.int .i64 0, .int .i64 0] 26,
   is (.bool false)])
  ⟨bx_k, bx_k, bx_k, is_k, trivial⟩
  ⟨fun f s W c d h i j a => opb rfl rfl (by simp [go_sem, a.e 0 k0]),
  fun f s W c d h i j a => opb rfl rfl (by simp [go_sem, a.e 1 k1]),
  fun f s W c d h i j a => opb rfl rfl (by simp [go_sem]),
  fun f s W c d h i j a => opv rfl rfl (by simp [go_sem]) rfl, trivial⟩ ?_
 intro f1 s1 W1 hB1 g1 hg1
 have fB1 := below_trans fB0 hB1.below
 have z1 := hB1.below.size
 obtain ⟨r1_0, br1_0⟩ := hB1.is 0
 have lr1_0 := hB1.lr 0 br1_0
 obtain ⟨r1_1, br1_1⟩ := hB1.is 1
 have lr1_1 := hB1.lr 1 br1_1
 obtain ⟨r1_2, br1_2⟩ := hB1.is 2
 have lr1_2 := hB1.lr 2 br1_2
 have ne1_0_1 := hB1.nb 0 1
 have ne1_0_2 := hB1.nb 0 2
 have ne1_1_2 := hB1.nb 1 2
 refine hK1 _ _ ?_
 have k1_2 := kt hg1 2 r1_0
 have k1_3 := kt hg1 3 r1_1
 have k1_4 := kt hg1 4 r1_2
 have k1_5 := kt hg1 5 (hB1.is 3)
 refine wp_seq_k fun K2 hK2 => ?_
 refine region_dk 2 [(9, 0), (6, 1), (7, 3)] [[], [], [0, 1], [0, 1, 2]] (rel [is (.agg #[.int .i64 0, .int .i64 0]),
   bx 1 #[.int .i64 0, .int .i64 0] 26])
  ⟨is_k, bx_k, trivial⟩
  ⟨fun f s W c d h i j a => opv rfl rfl (by simp [go_sem]) rfl,
  fun f s W c d h i j a => opb rfl rfl (by simp [go_sem]), trivial⟩ ?_
 intro f2 s2 W2 hB2 g2 hg2
 have fB2 := below_trans fB1 hB2.below
 have z2 := hB2.below.size
 have b2_0 := blk_below br1_0 hB2.below
 have b2_1 := blk_below br1_1 hB2.below
 have b2_2 := blk_below br1_2 hB2.below
 obtain ⟨r2_1, br2_1⟩ := hB2.is 1
 have lr2_1 := hB2.lr 1 br2_1
 have k2_2 := kt hg2 2 k1_2
 have k2_3 := kt hg2 3 k1_3
 have k2_4 := kt hg2 4 k1_4
 have k2_5 := kt hg2 5 k1_5
 have k2_9 := kt hg2 9 (hB2.is 0)
 have k2_6 := kt hg2 6 r2_1
 obtain ⟨W3, hW3⟩ : ∃ W', W' = W2.setRow (s2 1) #[.int .i64 0, .int .i64 0] := ⟨_, rfl⟩
 refine tail_skip (o := _) rfl ⟨rfl, rfl⟩ (run_seg hW3 (fr_ev k2_6) (fr_ev k2_9) br2_1 rfl rfl rfl rfl) ?_
 obtain ⟨fB3, nb3, ot3, z3⟩ := seg_facts hW3 fB2 br2_1 (by omega)
 clear hW3
 have b3_0 := ot3 _ _ (by omega) b2_0
 have b3_1 := ot3 _ _ (by omega) b2_1
 have b3_2 := ot3 _ _ (by omega) b2_2
 refine tail_value (o := _) rfl rfl rfl (v := .bool false) (by simp [go_sem]) ?_
 generalize hg4 : upd g2 7 (.bool false) = g4
 have k4_2 := ku hg4 2 k2_2
 have k4_3 := ku hg4 3 k2_3
 have k4_4 := ku hg4 4 k2_4
 have k4_5 := ku hg4 5 k2_5
 have k4_6 := ku hg4 6 k2_6
 have k4_7 := kt hg4 7 (upd_same _ _ _)
 refine wpOps_end ?_
 refine hK2 _ _ ?_
 refine wp_seq_k fun K3 hK3 => ?_
 refine wp_seq_k fun K4 hK4 => ?_
 refine region_dk 1 [(8, 0)] [[]] (rel [is (.int .i64 1)])
  ⟨is_k, trivial⟩
  ⟨fun f s W c d h i j a => opv rfl rfl (by simp [go_sem]) rfl, trivial⟩ ?_
 intro f5 s5 W5 hB5 g5 hg5
 have fB5 := below_trans fB3 hB5.below
 have z5 := hB5.below.size
 have b5_0 := blk_below b3_0 hB5.below
 have b5_1 := blk_below b3_1 hB5.below
 have b5_2 := blk_below b3_2 hB5.below
 have b5_3 := blk_below nb3 hB5.below
 refine hK4 _ _ ?_
 have k5_2 := kt hg5 2 k4_2
 have k5_3 := kt hg5 3 k4_3
 have k5_4 := kt hg5 4 k4_4
 have k5_5 := kt hg5 5 k4_5
 have k5_6 := kt hg5 6 k4_6
 have k5_7 := kt hg5 7 k4_7
 have k5_8 := kt hg5 8 (hB5.is 0)
 refine wp_block ?_
 refine wp_loop_n (fun m_ a_ W_ => ∃ g_ : Nat → Value, a_ = fr 27 g_ ∧ (∃ n : Nat, m_ = 10001 - n ∧ g_ 2 = .pointer (some ⟨(s1 0), 0, none⟩) ∧ g_ 3 = .pointer (some ⟨(s1 1), 0, none⟩) ∧ g_ 4 = .pointer (some ⟨(s1 2), 0, none⟩) ∧ g_ 5 = .bool false ∧ g_ 6 = .pointer (some ⟨(s2 1), 0, none⟩) ∧ g_ 8 = .int .i64 ((n : Int) + 1) ∧ g_ 7 = .bool ((calTo b ⟨(l1, h1'), (l2, h2'), (l3, h3'), (l4, h4'), (l5, h5'), wo⟩ n).2) ∧ Below w.heap.size w W_ ∧ W5.heap.size ≤ W_.heap.size ∧ W_.heap[(s1 0)]? = some (.cells #[.int .i64 b.tab, .slice (a1) (b.panels.length) (c1), .int .i64 b.height, .slice (a2) (b.top.length) (c2), .slice (a3) (b.bottom.length) (c3), .int .i64 b.slot, .bool b.isOpen] 24 (0, 0)) ∧ W_.heap[(s1 1)]? = some (.cells #[.int .i64 l1, .int .i64 (h1'), .int .i64 l2, .int .i64 (h2'), .int .i64 l3, .int .i64 (h3'), .int .i64 l4, .int .i64 (h4'), .int .i64 l5, .int .i64 (h5'), .bool wo] 43 (0, 0)) ∧ W_.heap[(s1 2)]? = some (.cells #[.int .i64 0, .int .i64 0] 26 (0, 0)) ∧ W_.heap[(s2 1)]? = some (.cells #[.int .i64 ((calTo b ⟨(l1, h1'), (l2, h2'), (l3, h3'), (l4, h4'), (l5, h5'), wo⟩ n).1.1), .int .i64 ((calTo b ⟨(l1, h1'), (l2, h2'), (l3, h3'), (l4, h4'), (l5, h5'), wo⟩ n).1.2)] 26 (0, 0)) ∧ (n ≤ 10000))) ⟨_, g5, rfl, 0, rfl, k5_2, k5_3, k5_4, k5_5, k5_6, k5_8.trans (by rfl), k5_7.trans (by rfl), fB5, Nat.le_refl _, b5_0, b5_1, b5_2, b5_3, (by omega)⟩ ?_
 rintro _ _ W_16 ⟨g_16, rfl, n, rfl, k_16_2, k_16_3, k_16_4, k_16_5, k_16_6, k_16_8, k_16_7, fB_16, z_16, b_16_0, b_16_1, b_16_2, m_16_0, lp0⟩
 refine wp_seq_k fun K5 hK5 => ?_
 refine wp_seq_k fun K6 hK6 => ?_
 refine region_dk 2 [(10, 0), (11, 1)] [[], [0]] (rel [is (.int .i64 ((n : Int) + 1)),
   is (.bool (decide (((n : Int) + 1) ≤ 10000)))])
  ⟨is_k, is_k, trivial⟩
  ⟨fun f s W c d h i j a => opv rfl rfl (by simp [go_sem, a.e 8 k_16_8]) rfl,
  fun f s W c d h i j a => opv rfl rfl (by simp [go_sem, a.e 10 (d 0 rfl)]) rfl, trivial⟩ ?_
 intro f6 s6 W6 hB6 g6 hg6
 have fB6 := below_trans fB_16 hB6.below
 have z6 := hB6.below.size
 have b6_0 := blk_below b_16_0 hB6.below
 have b6_1 := blk_below b_16_1 hB6.below
 have b6_2 := blk_below b_16_2 hB6.below
 have b6_3 := blk_below m_16_0 hB6.below
 refine hK6 _ _ ?_
 have k6_2 := kt hg6 2 k_16_2
 have k6_3 := kt hg6 3 k_16_3
 have k6_4 := kt hg6 4 k_16_4
 have k6_5 := kt hg6 5 k_16_5
 have k6_6 := kt hg6 6 k_16_6
 have k6_8 := kt hg6 8 k_16_8
 have k6_7 := kt hg6 7 k_16_7
 have k6_11 := kt hg6 11 (hB6.is 1)
 refine wp_cond_split (t := decide (((n : Int) + 1) ≤ 10000)) ((fr_eval rfl).trans k6_11) (fun hc7 => ?_) (fun hc7 => ?_)
 ·
  have hc7' := hc7; try simp only [decide_eq_true_eq, decide_eq_false_iff_not, Bool.and_eq_true, Bool.or_eq_true, Bool.and_eq_false_iff, Bool.or_eq_false_iff, beq_iff_eq, bne_iff_ne, Bool.not_eq_true', Bool.not_eq_false', ne_eq, bne_eq_false_iff_eq, beq_eq_false_iff_ne] at hc7'
  refine wp_skip ?_
  refine hK5 _ _ ?_
  refine wp_seq_k fun K8 hK8 => ?_
  refine wp_block ?_
  refine wp_seq_k fun K9 hK9 => ?_
  refine wp_seq_k fun K10 hK10 => ?_
  refine region_dk 5 [(14, 0), (15, 1), (16, 2), (17, 3), (18, 4)] [[], [], [], [0, 1, 2], [0, 1, 2, 3]] (rel [is (.agg #[.int .i64 b.tab, .slice (a1) (b.panels.length) (c1), .int .i64 b.height, .slice (a2) (b.top.length) (c2), .slice (a3) (b.bottom.length) (c3), .int .i64 b.slot, .bool b.isOpen]),
   is (.agg #[.int .i64 l1, .int .i64 (h1'), .int .i64 l2, .int .i64 (h2'), .int .i64 l3, .int .i64 (h3'), .int .i64 l4, .int .i64 (h4'), .int .i64 l5, .int .i64 (h5'), .bool wo]),
   is (.int .i64 ((n : Int) + 1)),
   is (.bool (closesR b ⟨(l1, h1'), (l2, h2'), (l3, h3'), (l4, h4'), (l5, h5'), wo⟩ ((n : Int) + 1))),
   is (.bool (!(closesR b ⟨(l1, h1'), (l2, h2'), (l3, h3'), (l4, h4'), (l5, h5'), wo⟩ ((n : Int) + 1))))])
   ⟨is_k, is_k, is_k, is_k, is_k, trivial⟩
   ⟨fun f s W c d h i j a => opv rfl rfl (by simp [go_sem, a.e 2 k6_2, Joins.cell_of_block (blk_below b6_0 c) 0, Joins.cell_of_block (blk_below b6_0 c) 1, Joins.cell_of_block (blk_below b6_0 c) 2, Joins.cell_of_block (blk_below b6_0 c) 3, Joins.cell_of_block (blk_below b6_0 c) 4, Joins.cell_of_block (blk_below b6_0 c) 5, Joins.cell_of_block (blk_below b6_0 c) 6]) rfl,
  fun f s W c d h i j a => opv rfl rfl (by simp [go_sem, a.e 3 k6_3, Joins.cell_of_block (blk_below b6_1 c) 0, Joins.cell_of_block (blk_below b6_1 c) 1, Joins.cell_of_block (blk_below b6_1 c) 2, Joins.cell_of_block (blk_below b6_1 c) 3, Joins.cell_of_block (blk_below b6_1 c) 4, Joins.cell_of_block (blk_below b6_1 c) 5, Joins.cell_of_block (blk_below b6_1 c) 6, Joins.cell_of_block (blk_below b6_1 c) 7, Joins.cell_of_block (blk_below b6_1 c) 8, Joins.cell_of_block (blk_below b6_1 c) 9, Joins.cell_of_block (blk_below b6_1 c) 10]) rfl,
  fun f s W c d h i j a => opv rfl rfl (by simp [go_sem, a.e 8 k6_8]) rfl,
  fun f s W c d h i j a => by have k := below_trans fB6 c; exact opc rfl rfl (by simp [go_sem, a.e 14 (d 0 rfl), a.e 15 (d 1 rfl), a.e 16 (d 2 rfl)]) (closesR_any a1 a2 a3 c1 c2 c3 b l1 h1' l2 h2' l3 h3' l4 h4' l5 h5' wo ((n : Int) + 1) W (h1.below k (Nat.le_refl _)) (h2.below k (Nat.le_refl _)) (h3.below k (Nat.le_refl _)) hck hw (by omega)),
  fun f s W c d h i j a => opv rfl rfl (by simp [go_sem, a.e 17 (d 3 rfl)]) rfl, trivial⟩ ?_
  intro f7 s7 W7 hB7 g7 hg7
  have fB7 := below_trans fB6 hB7.below
  have z7 := hB7.below.size
  have b7_0 := blk_below b6_0 hB7.below
  have b7_1 := blk_below b6_1 hB7.below
  have b7_2 := blk_below b6_2 hB7.below
  have b7_3 := blk_below b6_3 hB7.below
  refine hK10 _ _ ?_
  have k7_2 := kt hg7 2 k6_2
  have k7_3 := kt hg7 3 k6_3
  have k7_4 := kt hg7 4 k6_4
  have k7_5 := kt hg7 5 k6_5
  have k7_6 := kt hg7 6 k6_6
  have k7_8 := kt hg7 8 k6_8
  have k7_7 := kt hg7 7 k6_7
  have k7_18 := kt hg7 18 (hB7.is 4)
  refine wp_cond_split (t := !(closesR b ⟨(l1, h1'), (l2, h2'), (l3, h3'), (l4, h4'), (l5, h5'), wo⟩ ((n : Int) + 1))) ((fr_eval rfl).trans k7_18) (fun hc11 => ?_) (fun hc11 => ?_)
  ·
   have hc11' := hc11; try simp only [decide_eq_true_eq, decide_eq_false_iff_not, Bool.and_eq_true, Bool.or_eq_true, Bool.and_eq_false_iff, Bool.or_eq_false_iff, beq_iff_eq, bne_iff_ne, Bool.not_eq_true', Bool.not_eq_false', ne_eq, bne_eq_false_iff_eq, beq_eq_false_iff_ne] at hc11'
   refine wp_exit ?_
   refine then_exit ?_
   refine inBlock_at ?_
   refine hK8 _ _ ?_
   refine region_dk 3 [(12, 0), (13, 1), (8, 2)] [[], [0], [0, 1]] (rel [is (.int .i64 ((n : Int) + 1)),
   is (.int .i64 (((n : Int) + 1) + 1)),
   is (.int .i64 (((n : Int) + 1) + 1))])
    ⟨is_k, is_k, is_k, trivial⟩
    ⟨fun f s W c d h i j a => opv rfl rfl (by simp [go_sem, a.e 8 ((i 2 8 rfl rfl).trans k7_8)]) rfl,
  fun f s W c d h i j a => opv rfl rfl (by simp [go_sem, a.e 12 (d 0 rfl), IntWalk.i64_in (((n : Int) + 1) + 1) (by omega)]) rfl,
  fun f s W c d h i j a => opv rfl rfl (by simp [go_sem, a.e 13 (d 1 rfl)]) rfl, trivial⟩ ?_
   intro f8 s8 W8 hB8 g8 hg8
   have fB8 := below_trans fB7 hB8.below
   have z8 := hB8.below.size
   have b8_0 := blk_below b7_0 hB8.below
   have b8_1 := blk_below b7_1 hB8.below
   have b8_2 := blk_below b7_2 hB8.below
   have b8_3 := blk_below b7_3 hB8.below
   refine wpOps_end ?_
   have k8_2 := kt hg8 2 k7_2
   have k8_3 := kt hg8 3 k7_3
   have k8_4 := kt hg8 4 k7_4
   have k8_5 := kt hg8 5 k7_5
   have k8_6 := kt hg8 6 k7_6
   have k8_7 := kt hg8 7 k7_7
   have k8_8 := kt hg8 8 (hB8.is 2)
   refine then_normal ?_
   exact ⟨_, by omega, g8, rfl, n + 1, rfl, k8_2, k8_3, k8_4, k8_5, k8_6, k8_8.trans (by go_num), (by rw [← calTo_skip hc11]; exact k8_7), fB8, (by omega), b8_0, b8_1, b8_2, (by rw [← calTo_skip hc11]; exact b8_3), (by omega)⟩
  ·
   have hc11' := hc11; try simp only [decide_eq_true_eq, decide_eq_false_iff_not, Bool.and_eq_true, Bool.or_eq_true, Bool.and_eq_false_iff, Bool.or_eq_false_iff, beq_iff_eq, bne_iff_ne, Bool.not_eq_true', Bool.not_eq_false', ne_eq, bne_eq_false_iff_eq, beq_eq_false_iff_ne] at hc11'
   refine wp_skip ?_
   refine hK9 _ _ ?_
   refine wp_seq_k fun K12 hK12 => ?_
   refine wp_seq_k fun K13 hK13 => ?_
   refine region_dk 2 [(19, 0), (20, 1)] [[], [0]] (rel [is (.bool ((calTo b ⟨(l1, h1'), (l2, h2'), (l3, h3'), (l4, h4'), (l5, h5'), wo⟩ n).2)),
   is (.bool (!((calTo b ⟨(l1, h1'), (l2, h2'), (l3, h3'), (l4, h4'), (l5, h5'), wo⟩ n).2)))])
    ⟨is_k, is_k, trivial⟩
    ⟨fun f s W c d h i j a => opv rfl rfl (by simp [go_sem, a.e 7 k7_7]) rfl,
  fun f s W c d h i j a => opv rfl rfl (by simp [go_sem, a.e 19 (d 0 rfl)]) rfl, trivial⟩ ?_
   intro f9 s9 W9 hB9 g9 hg9
   have fB9 := below_trans fB7 hB9.below
   have z9 := hB9.below.size
   have b9_0 := blk_below b7_0 hB9.below
   have b9_1 := blk_below b7_1 hB9.below
   have b9_2 := blk_below b7_2 hB9.below
   have b9_3 := blk_below b7_3 hB9.below
   refine hK13 _ _ ?_
   have k9_2 := kt hg9 2 k7_2
   have k9_3 := kt hg9 3 k7_3
   have k9_4 := kt hg9 4 k7_4
   have k9_5 := kt hg9 5 k7_5
   have k9_6 := kt hg9 6 k7_6
   have k9_8 := kt hg9 8 k7_8
   have k9_7 := kt hg9 7 k7_7
   have k9_20 := kt hg9 20 (hB9.is 1)
   refine wp_cond_split (t := !((calTo b ⟨(l1, h1'), (l2, h2'), (l3, h3'), (l4, h4'), (l5, h5'), wo⟩ n).2)) ((fr_eval rfl).trans k9_20) (fun hc14 => ?_) (fun hc14 => ?_)
   ·
    have hc14' := hc14; try simp only [decide_eq_true_eq, decide_eq_false_iff_not, Bool.and_eq_true, Bool.or_eq_true, Bool.and_eq_false_iff, Bool.or_eq_false_iff, beq_iff_eq, bne_iff_ne, Bool.not_eq_true', Bool.not_eq_false', ne_eq, bne_eq_false_iff_eq, beq_eq_false_iff_ne] at hc14'
    refine region_dk 2 [(21, 0), (22, 1), (7, 3)] [[], [0], [0, 1], [0, 1, 2]] (rel [is (.int .i64 ((n : Int) + 1)),
   is (.pointer (some ⟨(s2 1), 0, none⟩))])
     ⟨is_k, is_k, trivial⟩
     ⟨fun f s W c d h i j a => opv rfl rfl (by simp [go_sem, a.e 8 k9_8]) rfl,
  fun f s W c d h i j a => opv rfl rfl (by simp [go_sem, a.e 6 k9_6]) rfl, trivial⟩ ?_
    intro f10 s10 W10 hB10 g10 hg10
    have fB10 := below_trans fB9 hB10.below
    have z10 := hB10.below.size
    have b10_0 := blk_below b9_0 hB10.below
    have b10_1 := blk_below b9_1 hB10.below
    have b10_2 := blk_below b9_2 hB10.below
    have b10_3 := blk_below b9_3 hB10.below
    have k10_2 := kt hg10 2 k9_2
    have k10_3 := kt hg10 3 k9_3
    have k10_4 := kt hg10 4 k9_4
    have k10_5 := kt hg10 5 k9_5
    have k10_6 := kt hg10 6 k9_6
    have k10_8 := kt hg10 8 k9_8
    have k10_21 := kt hg10 21 (hB10.is 0)
    have k10_22 := kt hg10 22 (hB10.is 1)
    obtain ⟨W11, hW11⟩ : ∃ W', W' = W10.setRow (s2 1) #[.int .i64 ((n : Int) + 1), .int .i64 ((calTo b ⟨(l1, h1'), (l2, h2'), (l3, h3'), (l4, h4'), (l5, h5'), wo⟩ n).1.2)] := ⟨_, rfl⟩
    refine tail_skip (o := _) rfl ⟨rfl, rfl⟩ (run_seg hW11 (fr_ev k10_22) (fr_ev k10_21) b10_3 rfl rfl rfl rfl) ?_
    obtain ⟨fB11, nb11, ot11, z11⟩ := seg_facts hW11 fB10 b10_3 (by omega)
    clear hW11
    have b11_0 := ot11 _ _ (by omega) b10_0
    have b11_1 := ot11 _ _ (by omega) b10_1
    have b11_2 := ot11 _ _ (by omega) b10_2
    refine tail_value (o := _) rfl rfl rfl (v := .bool true) (by simp [go_sem]) ?_
    generalize hg12 : upd g10 7 (.bool true) = g12
    have k12_2 := ku hg12 2 k10_2
    have k12_3 := ku hg12 3 k10_3
    have k12_4 := ku hg12 4 k10_4
    have k12_5 := ku hg12 5 k10_5
    have k12_6 := ku hg12 6 k10_6
    have k12_8 := ku hg12 8 k10_8
    have k12_7 := kt hg12 7 (upd_same _ _ _)
    refine wpOps_end ?_
    refine hK12 _ _ ?_
    refine region_dk 2 [(23, 0), (24, 1)] [[], [0], [0, 1]] (rel [is (.int .i64 ((n : Int) + 1)),
   is (.pointer (some ⟨(s2 1), 1, none⟩))])
     ⟨is_k, is_k, trivial⟩
     ⟨fun f s W c d h i j a => opv rfl rfl (by simp [go_sem, a.e 8 k12_8]) rfl,
  fun f s W c d h i j a => opv rfl rfl (by simp [go_sem, a.e 6 k12_6]) rfl, trivial⟩ ?_
    intro f13 s13 W13 hB13 g13 hg13
    have fB13 := below_trans fB11 hB13.below
    have z13 := hB13.below.size
    have b13_0 := blk_below b11_0 hB13.below
    have b13_1 := blk_below b11_1 hB13.below
    have b13_2 := blk_below b11_2 hB13.below
    have b13_3 := blk_below nb11 hB13.below
    have k13_2 := kt hg13 2 k12_2
    have k13_3 := kt hg13 3 k12_3
    have k13_4 := kt hg13 4 k12_4
    have k13_5 := kt hg13 5 k12_5
    have k13_6 := kt hg13 6 k12_6
    have k13_8 := kt hg13 8 k12_8
    have k13_7 := kt hg13 7 k12_7
    have k13_23 := kt hg13 23 (hB13.is 0)
    have k13_24 := kt hg13 24 (hB13.is 1)
    obtain ⟨W14, hW14⟩ : ∃ W', W' = W13.setRow (s2 1) #[.int .i64 ((n : Int) + 1), .int .i64 ((n : Int) + 1)] := ⟨_, rfl⟩
    refine tail_skip (o := _) rfl ⟨rfl, rfl⟩ (run_seg hW14 (fr_ev k13_24) (fr_ev k13_23) b13_3 rfl rfl rfl rfl) ?_
    obtain ⟨fB14, nb14, ot14, z14⟩ := seg_facts hW14 fB13 b13_3 (by omega)
    clear hW14
    have b14_0 := ot14 _ _ (by omega) b13_0
    have b14_1 := ot14 _ _ (by omega) b13_1
    have b14_2 := ot14 _ _ (by omega) b13_2
    refine wpOps_end ?_
    refine inBlock_normal ?_
    refine hK8 _ _ ?_
    refine region_dk 3 [(12, 0), (13, 1), (8, 2)] [[], [0], [0, 1]] (rel [is (.int .i64 ((n : Int) + 1)),
   is (.int .i64 (((n : Int) + 1) + 1)),
   is (.int .i64 (((n : Int) + 1) + 1))])
     ⟨is_k, is_k, is_k, trivial⟩
     ⟨fun f s W c d h i j a => opv rfl rfl (by simp [go_sem, a.e 8 ((i 2 8 rfl rfl).trans k13_8)]) rfl,
  fun f s W c d h i j a => opv rfl rfl (by simp [go_sem, a.e 12 (d 0 rfl), IntWalk.i64_in (((n : Int) + 1) + 1) (by omega)]) rfl,
  fun f s W c d h i j a => opv rfl rfl (by simp [go_sem, a.e 13 (d 1 rfl)]) rfl, trivial⟩ ?_
    intro f15 s15 W15 hB15 g15 hg15
    have fB15 := below_trans fB14 hB15.below
    have z15 := hB15.below.size
    have b15_0 := blk_below b14_0 hB15.below
    have b15_1 := blk_below b14_1 hB15.below
    have b15_2 := blk_below b14_2 hB15.below
    have b15_3 := blk_below nb14 hB15.below
    refine wpOps_end ?_
    have k15_2 := kt hg15 2 k13_2
    have k15_3 := kt hg15 3 k13_3
    have k15_4 := kt hg15 4 k13_4
    have k15_5 := kt hg15 5 k13_5
    have k15_6 := kt hg15 6 k13_6
    have k15_7 := kt hg15 7 k13_7
    have k15_8 := kt hg15 8 (hB15.is 2)
    refine then_normal ?_
    exact ⟨_, by omega, g15, rfl, n + 1, rfl, k15_2, k15_3, k15_4, k15_5, k15_6, k15_8.trans (by go_num), (by rw [calTo_first hc11 hc14]; exact k15_7), fB15, (by omega), b15_0, b15_1, b15_2, (by rw [calTo_first hc11 hc14]; exact b15_3), (by omega)⟩
   ·
    have hc14' := hc14; try simp only [decide_eq_true_eq, decide_eq_false_iff_not, Bool.and_eq_true, Bool.or_eq_true, Bool.and_eq_false_iff, Bool.or_eq_false_iff, beq_iff_eq, bne_iff_ne, Bool.not_eq_true', Bool.not_eq_false', ne_eq, bne_eq_false_iff_eq, beq_eq_false_iff_ne] at hc14'
    refine wp_skip ?_
    refine hK12 _ _ ?_
    refine region_dk 2 [(23, 0), (24, 1)] [[], [0], [0, 1]] (rel [is (.int .i64 ((n : Int) + 1)),
   is (.pointer (some ⟨(s2 1), 1, none⟩))])
     ⟨is_k, is_k, trivial⟩
     ⟨fun f s W c d h i j a => opv rfl rfl (by simp [go_sem, a.e 8 k9_8]) rfl,
  fun f s W c d h i j a => opv rfl rfl (by simp [go_sem, a.e 6 k9_6]) rfl, trivial⟩ ?_
    intro f16 s16 W16 hB16 g16 hg16
    have fB16 := below_trans fB9 hB16.below
    have z16 := hB16.below.size
    have b16_0 := blk_below b9_0 hB16.below
    have b16_1 := blk_below b9_1 hB16.below
    have b16_2 := blk_below b9_2 hB16.below
    have b16_3 := blk_below b9_3 hB16.below
    have k16_2 := kt hg16 2 k9_2
    have k16_3 := kt hg16 3 k9_3
    have k16_4 := kt hg16 4 k9_4
    have k16_5 := kt hg16 5 k9_5
    have k16_6 := kt hg16 6 k9_6
    have k16_8 := kt hg16 8 k9_8
    have k16_7 := kt hg16 7 k9_7
    have k16_23 := kt hg16 23 (hB16.is 0)
    have k16_24 := kt hg16 24 (hB16.is 1)
    obtain ⟨W17, hW17⟩ : ∃ W', W' = W16.setRow (s2 1) #[.int .i64 ((calTo b ⟨(l1, h1'), (l2, h2'), (l3, h3'), (l4, h4'), (l5, h5'), wo⟩ n).1.1), .int .i64 ((n : Int) + 1)] := ⟨_, rfl⟩
    refine tail_skip (o := _) rfl ⟨rfl, rfl⟩ (run_seg hW17 (fr_ev k16_24) (fr_ev k16_23) b16_3 rfl rfl rfl rfl) ?_
    obtain ⟨fB17, nb17, ot17, z17⟩ := seg_facts hW17 fB16 b16_3 (by omega)
    clear hW17
    have b17_0 := ot17 _ _ (by omega) b16_0
    have b17_1 := ot17 _ _ (by omega) b16_1
    have b17_2 := ot17 _ _ (by omega) b16_2
    refine wpOps_end ?_
    refine inBlock_normal ?_
    refine hK8 _ _ ?_
    refine region_dk 3 [(12, 0), (13, 1), (8, 2)] [[], [0], [0, 1]] (rel [is (.int .i64 ((n : Int) + 1)),
   is (.int .i64 (((n : Int) + 1) + 1)),
   is (.int .i64 (((n : Int) + 1) + 1))])
     ⟨is_k, is_k, is_k, trivial⟩
     ⟨fun f s W c d h i j a => opv rfl rfl (by simp [go_sem, a.e 8 ((i 2 8 rfl rfl).trans k16_8)]) rfl,
  fun f s W c d h i j a => opv rfl rfl (by simp [go_sem, a.e 12 (d 0 rfl), IntWalk.i64_in (((n : Int) + 1) + 1) (by omega)]) rfl,
  fun f s W c d h i j a => opv rfl rfl (by simp [go_sem, a.e 13 (d 1 rfl)]) rfl, trivial⟩ ?_
    intro f18 s18 W18 hB18 g18 hg18
    have fB18 := below_trans fB17 hB18.below
    have z18 := hB18.below.size
    have b18_0 := blk_below b17_0 hB18.below
    have b18_1 := blk_below b17_1 hB18.below
    have b18_2 := blk_below b17_2 hB18.below
    have b18_3 := blk_below nb17 hB18.below
    refine wpOps_end ?_
    have k18_2 := kt hg18 2 k16_2
    have k18_3 := kt hg18 3 k16_3
    have k18_4 := kt hg18 4 k16_4
    have k18_5 := kt hg18 5 k16_5
    have k18_6 := kt hg18 6 k16_6
    have k18_7 := kt hg18 7 k16_7
    have k18_8 := kt hg18 8 (hB18.is 2)
    refine then_normal ?_
    exact ⟨_, by omega, g18, rfl, n + 1, rfl, k18_2, k18_3, k18_4, k18_5, k18_6, k18_8.trans (by go_num), (by rw [calTo_more hc11 hc14]; exact k18_7.trans (by rw [show (calTo b ⟨(l1, h1'), (l2, h2'), (l3, h3'), (l4, h4'), (l5, h5'), wo⟩ n).2 = true from by simpa using hc14])), fB18, (by omega), b18_0, b18_1, b18_2, (by rw [calTo_more hc11 hc14]; exact b18_3), (by omega)⟩
 ·
  have hc7' := hc7; try simp only [decide_eq_true_eq, decide_eq_false_iff_not, Bool.and_eq_true, Bool.or_eq_true, Bool.and_eq_false_iff, Bool.or_eq_false_iff, beq_iff_eq, bne_iff_ne, Bool.not_eq_true', Bool.not_eq_false', ne_eq, bne_eq_false_iff_eq, beq_eq_false_iff_ne] at hc7'
  refine wp_exit ?_
  refine then_exit ?_
  refine then_exit ?_
  refine inBlock_at ?_
  refine hK3 _ _ ?_
  refine wp_seq_k fun K15 hK15 => ?_
  refine region_dk 2 [(25, 0), (26, 1), (5, 3)] [[], [], [0], [0, 1, 2]] (rel [is (.agg #[.int .i64 ((calTo b ⟨(l1, h1'), (l2, h2'), (l3, h3'), (l4, h4'), (l5, h5'), wo⟩ n).1.1), .int .i64 ((calTo b ⟨(l1, h1'), (l2, h2'), (l3, h3'), (l4, h4'), (l5, h5'), wo⟩ n).1.2)]),
   is (.bool ((calTo b ⟨(l1, h1'), (l2, h2'), (l3, h3'), (l4, h4'), (l5, h5'), wo⟩ n).2))])
   ⟨is_k, is_k, trivial⟩
   ⟨fun f s W c d h i j a => opv rfl rfl (by simp [go_sem, a.e 6 k6_6, Joins.cell_of_block (blk_below b6_3 c) 0, Joins.cell_of_block (blk_below b6_3 c) 1]) rfl,
  fun f s W c d h i j a => opv rfl rfl (by simp [go_sem, a.e 7 k6_7]) rfl, trivial⟩ ?_
  intro f19 s19 W19 hB19 g19 hg19
  have fB19 := below_trans fB6 hB19.below
  have z19 := hB19.below.size
  have b19_0 := blk_below b6_0 hB19.below
  have b19_1 := blk_below b6_1 hB19.below
  have b19_2 := blk_below b6_2 hB19.below
  have b19_3 := blk_below b6_3 hB19.below
  have k19_4 := kt hg19 4 k6_4
  have k19_25 := kt hg19 25 (hB19.is 0)
  have k19_26 := kt hg19 26 (hB19.is 1)
  obtain ⟨W20, hW20⟩ : ∃ W', W' = W19.setRow (s1 2) #[.int .i64 ((calTo b ⟨(l1, h1'), (l2, h2'), (l3, h3'), (l4, h4'), (l5, h5'), wo⟩ n).1.1), .int .i64 ((calTo b ⟨(l1, h1'), (l2, h2'), (l3, h3'), (l4, h4'), (l5, h5'), wo⟩ n).1.2)] := ⟨_, rfl⟩
  refine tail_skip (o := _) rfl ⟨rfl, rfl⟩ (run_seg hW20 (fr_ev k19_4) (fr_ev k19_25) b19_2 rfl rfl rfl rfl) ?_
  obtain ⟨fB20, nb20, ot20, z20⟩ := seg_facts hW20 fB19 b19_2 (by omega)
  clear hW20
  have b20_0 := ot20 _ _ (by omega) b19_0
  have b20_1 := ot20 _ _ (by omega) b19_1
  have b20_3 := ot20 _ _ (by omega) b19_3
  refine tail_value (o := _) rfl rfl rfl (v := .bool ((calTo b ⟨(l1, h1'), (l2, h2'), (l3, h3'), (l4, h4'), (l5, h5'), wo⟩ n).2)) (by simp [go_sem, frv 27 k19_26]) ?_
  generalize hg21 : upd g19 5 (.bool ((calTo b ⟨(l1, h1'), (l2, h2'), (l3, h3'), (l4, h4'), (l5, h5'), wo⟩ n).2)) = g21
  have k21_4 := ku hg21 4 k19_4
  have k21_5 := kt hg21 5 (upd_same _ _ _)
  refine wpOps_end ?_
  refine hK15 _ _ ?_
  refine wp_ret ?_
  refine leave_gen (v := .tuple #[.agg #[.int .i64 ((calTo b ⟨(l1, h1'), (l2, h2'), (l3, h3'), (l4, h4'), (l5, h5'), wo⟩ n).1.1), .int .i64 ((calTo b ⟨(l1, h1'), (l2, h2'), (l3, h3'), (l4, h4'), (l5, h5'), wo⟩ n).1.2)], .bool ((calTo b ⟨(l1, h1'), (l2, h2'), (l3, h3'), (l4, h4'), (l5, h5'), wo⟩ n).2)]) (.inr rfl) (by simp [results, Tryz.results26, go_sem, frv 27 k21_4, Joins.cell_of_block nb20 0, Joins.cell_of_block nb20 1, frv 27 k21_5]) ?_
  obtain rfl : n = 10000 := by omega
  exact ⟨rfl, fB20⟩
end Go.Proofs.YthnediamopehfaaGreat
