/- Part of the proof: what the claim leans on. -/
import Derived.Test.YtnhipdbdolabkaaWAQ
import Derived.Test.YtnhipdbdolabkaaWBC
import Derived.Test.YtnhipdbdolabkaaWAG
import Derived.Test.YtnhipdbdolabkaaWAI
set_option linter.unusedSimpArgs false
set_option linter.unusedVariables false
namespace Go.Proofs.Ytnhipdbdolabkaa
open Go.RowKit
/-- An equation that omega does not read. -/
structure HidE (a b : Int) : Prop where
  out : a = b
/-- The orders, and the plan, of the bytes. -/
def osR (al0 al1 al2 nl0 nl1 nl2 nh0 nh1 nh2 : Int) : Nat → To
  | 0 => ⟨al0, nl0, nh0⟩
  | 1 => ⟨al1, nl1, nh1⟩
  | _ => ⟨al2, nl2, nh2⟩
def xsR (m1 m2 r0 r1 : Int) : Nat → List Int × Int
  | 0 => ([0, 0, m2], r0)
  | _ => ([1, m1, 0], r1)
theorem plan_blk {W : World} {b b0 b1 : Nat} {m1 m2 r0 r1 : Int} (h : W.heap[b]? = some (.cells #[.slice (some ⟨b0, 0, none⟩) 3 3, .int .i64 r0, .slice (some ⟨b1, 0, none⟩) 3 3, .int .i64 r1] 70 (0, 0))) (h0 : W.heap[b0]? = some (.cells #[.int .i64 0, .int .i64 0, .int .i64 m2] 3 (0, 0))) (h1 : W.heap[b1]? = some (.cells #[.int .i64 1, .int .i64 m1, .int .i64 0] 3 (0, 0))) : IsPlanS 35 2 (xsR m1 m2 r0 r1) (.slice (some ⟨b, 0, none⟩) 2 2) W := by
  refine ⟨_, _, b, 0, fun j => match j with | 0 => some ⟨b0, 0, none⟩ | _ => some ⟨b1, 0, none⟩, fun _ => 3, rfl, Nat.le_refl _, fun _ => rfl, fun W2 h1' h2 => ?_⟩
  have e := h2 _ _ (fun cs m e => by injection e with e1 e2; exact absurd e2 (by decide)) h
  have e0 := h2 _ _ (fun cs m e => by injection e with e1 e2; exact absurd e2 (by decide)) h0
  have e1 := h2 _ _ (fun cs m e => by injection e with e1 e2; exact absurd e2 (by decide)) h1
  refine ⟨fun _ => lt_of_blk e, fun j hj => ?_⟩
  match j, hj with
  | 0, _ => exact ⟨Joins.cell_of_block e 0, Joins.cell_of_block e 1, ii_block (xs := [0, 0, m2]) e0 rfl rfl⟩
  | 1, _ => exact ⟨Joins.cell_of_block e 2, Joins.cell_of_block e 3, ii_block (xs := [1, m1, 0]) e1 rfl rfl⟩
set_option maxRecDepth 100000 in
set_option maxHeartbeats 40000000 in
theorem pubRun_any_c18 (sv : Nat → Int) (ay : Option Addr) (cy : Nat) (al0 al1 al2 m1 m2 r0 r1 ma1 ma2 lf0 lf1 qq1 qq2 plo0 phi0 plo phi nl0 nl1 nl2 nh0 nh1 nh2 : Int) (w : World) (hY : Ii w ay 3 cy [al0, al1, al2]) (gsv : ∀ k, 0 ≤ sv k ∧ sv k ≤ 255) (gal0 : 1 ≤ al0 ∧ al0 ≤ 1000) (gal1 : 1 ≤ al1 ∧ al1 ≤ 1000) (gal2 : 1 ≤ al2 ∧ al2 ≤ 1000) (hm2 : HidE (1 + ((sv 22) % 2)) m2) (hr0 : HidE (1 + ((sv 23) % 9)) r0) (hm1 : HidE (1 + ((sv 25) % 2)) m1) (hr1 : HidE (1 + ((sv 26) % 9)) r1) (hma1 : HidE (m1 * al1) ma1) (hma2 : HidE (m2 * al2) ma2) (gma1 : 0 ≤ ma1 ∧ ma1 ≤ 2000) (gma2 : 0 ≤ ma2 ∧ ma2 ≤ 2000) (hlf0 : HidE (2900 - ma2) lf0) (hlf1 : HidE ((2900 - al0) - ma1) lf1) (hqq1 : HidE (m1 * r1) qq1) (hqq2 : HidE (m2 * r0) qq2) (gqq1 : 0 ≤ qq1 ∧ qq1 ≤ 20) (gqq2 : 0 ≤ qq2 ∧ qq2 ≤ 20) (gm1 : 1 ≤ m1 ∧ m1 ≤ 2) (gm2 : 1 ≤ m2 ∧ m2 ≤ 2) (gr0 : 1 ≤ r0 ∧ r0 ≤ 9) (gr1 : 1 ≤ r1 ∧ r1 ≤ 9) (glf0 : 0 ≤ lf0 ∧ lf0 ≤ 2900) (glf1 : -1000 ≤ lf1 ∧ lf1 ≤ 2900) (gp0 : 0 ≤ plo0 ∧ plo0 ≤ phi0 ∧ phi0 ≤ 3000) (gp1 : 0 ≤ plo ∧ plo ≤ phi ∧ phi ≤ 3000) (gn0 : 0 ≤ nl0 ∧ nl0 ≤ nh0 ∧ nh0 ≤ 30) (gn1 : 0 ≤ nl1 ∧ nl1 ≤ nh1 ∧ nh1 ≤ 30) (gn2 : 0 ≤ nl2 ∧ nl2 ≤ nh2 ∧ nh2 ≤ 30) (hplo0 : HidE (max 0 (min 3000 lf0)) plo0) (hphi0 : HidE (max 0 (lf0 + ((sv 21) % 20))) phi0) (hplo : HidE (max 0 (min plo0 lf1)) plo) (hphi : HidE (max phi0 (lf1 + ((sv 21) % 20))) phi) (hnl0 : HidE (max 0 (r1 - ((sv 28) % 2))) nl0) (hnh0 : HidE (r1 + (((sv 28) / 2) % 2)) nh0) (hnl1 : HidE (max 0 (qq1 - ((sv 29) % 2))) nl1) (hnh1 : HidE (qq1 + (((sv 29) / 2) % 2)) nh1) (hnl2 : HidE (max 0 (qq2 - ((sv 30) % 2))) nl2) (hnh2 : HidE (qq2 + (((sv 30) / 2) % 2)) nh2) (g_ : Nat → Value) (W_ : World) (bk0 : Nat) (bk1 : Nat) (bk2 : Nat) (bk3 : Nat) (bk4 : Nat) (ga19 : Nat) (ca19 : Nat) (bk6 : Nat) (bk7 : Nat)  (k_2 : g_ 2 = .pointer (some ⟨bk0, 0, none⟩)) (k_4 : g_ 4 = .pointer (some ⟨bk1, 0, none⟩)) (k_5 : g_ 5 = .slice (none) (0) (0)) (k_6 : g_ 6 = .slice (none) (0) (0)) (k_7 : g_ 7 = .pointer (some ⟨bk2, 0, none⟩)) (k_9 : g_ 9 = .slice (some ⟨bk3, 0, none⟩) (3) (3)) (k_10 : g_ 10 = .slice (some ⟨bk4, 0, none⟩) (2) (2)) (k_8 : g_ 8 = .slice (some ⟨ga19, 0, none⟩) (3) (ca19)) (fB_ : Below w.heap.size w W_) (bl_0 : W_.heap[bk0]? = some (.cells #[.int .u8 ((sv 0)), .int .u8 ((sv 1)), .int .u8 ((sv 2)), .int .u8 ((sv 3)), .int .u8 ((sv 4)), .int .u8 ((sv 5)), .int .u8 ((sv 6)), .int .u8 ((sv 7)), .int .u8 ((sv 8)), .int .u8 ((sv 9)), .int .u8 ((sv 10)), .int .u8 ((sv 11)), .int .u8 ((sv 12)), .int .u8 ((sv 13)), .int .u8 ((sv 14)), .int .u8 ((sv 15)), .int .u8 ((sv 16)), .int .u8 ((sv 17)), .int .u8 ((sv 18)), .int .u8 ((sv 19)), .int .u8 ((sv 20)), .int .u8 ((sv 21)), .int .u8 ((sv 22)), .int .u8 ((sv 23)), .int .u8 ((sv 24)), .int .u8 ((sv 25)), .int .u8 ((sv 26)), .int .u8 ((sv 27)), .int .u8 ((sv 28)), .int .u8 ((sv 29)), .int .u8 ((sv 30))] 27 (0, 0))) (bl_1 : W_.heap[bk1]? = some (.cells #[.int .i64 0, .int .i64 0, .int .i64 0, .int .i64 0] 35 (0, 0))) (bl_2 : W_.heap[bk2]? = some (.cells #[.int .i64 2900, .int .i64 plo, .int .i64 phi, .int .i64 4] 35 (0, 0))) (bl_3 : W_.heap[bk3]? = some (.cells #[.int .i64 r1, .int .i64 qq1, .int .i64 qq2] 3 (0, 0))) (bl_4 : W_.heap[bk6]? = some (.cells #[.int .i64 0, .int .i64 0, .int .i64 m2] 3 (0, 0))) (bl_5 : W_.heap[bk7]? = some (.cells #[.int .i64 1, .int .i64 m1, .int .i64 0] 3 (0, 0))) (bl_6 : W_.heap[bk4]? = some (.cells #[.slice (some ⟨bk6, 0, none⟩) (3) (3), .int .i64 r0, .slice (some ⟨bk7, 0, none⟩) (3) (3), .int .i64 r1] 70 (0, 0))) (ft_0 : OwnN 72 3 w.heap.size 3 [.int .i64 al0, .int .i64 0, .int .i64 0, .int .i64 al1, .int .i64 0, .int .i64 0, .int .i64 al2, .int .i64 0, .int .i64 0] (some ⟨ga19, 0, none⟩) ca19 W_) (lw_bk0 : w.heap.size ≤ bk0) (lw_bk1 : w.heap.size ≤ bk1) (lw_bk2 : w.heap.size ≤ bk2) (lw_bk3 : w.heap.size ≤ bk3) (lw_bk6 : w.heap.size ≤ bk6) (lw_bk7 : w.heap.size ≤ bk7) (lw_bk4 : w.heap.size ≤ bk4) (ne_0_1 : bk0 ≠ bk1) (ne_0_2 : bk0 ≠ bk2) (ne_1_2 : bk1 ≠ bk2) (ne_0_3 : bk0 ≠ bk3) (ne_1_3 : bk1 ≠ bk3) (ne_2_3 : bk2 ≠ bk3) (ne_0_4 : bk0 ≠ bk6) (ne_1_4 : bk1 ≠ bk6) (ne_2_4 : bk2 ≠ bk6) (ne_3_4 : bk3 ≠ bk6) (ne_0_5 : bk0 ≠ bk7) (ne_1_5 : bk1 ≠ bk7) (ne_2_5 : bk2 ≠ bk7) (ne_3_5 : bk3 ≠ bk7) (ne_4_5 : bk6 ≠ bk7) (ne_0_6 : bk0 ≠ bk4) (ne_1_6 : bk1 ≠ bk4) (ne_2_6 : bk2 ≠ bk4) (ne_3_6 : bk3 ≠ bk4) (ne_4_6 : bk6 ≠ bk4) (ne_5_6 : bk7 ≠ bk4) :
  (tailC 6 (bodyC Try.f8)).wp Try.prog (bodyPost Try.prog Try.f8 (fun e w' => ∃ v2 v3, e = .returned (.tuple #[.agg #[.int .i64 2900, .int .i64 plo, .int .i64 phi, .int .i64 4], v2, v3]) ∧ IsOrdS 35 3 (osR al0 al1 al2 nl0 nl1 nl2 nh0 nh1 nh2) v2 w' ∧ IsPlanS 35 2 (xsR m1 m2 r0 r1) v3 w' ∧ Below w.heap.size w w')) (fr 168 g_) W_ := by
 obtain ⟨by_, oy_, hY_⟩ := hY.open
 have gs21 := gsv 21
 have gs22 := gsv 22
 have gs23 := gsv 23
 have gs25 := gsv 25
 have gs26 := gsv 26
 have gs28 := gsv 28
 have gs29 := gsv 29
 have gs30 := gsv 30
 have lt_bk0 := lt_of_blk bl_0
 have lt_bk1 := lt_of_blk bl_1
 have lt_bk2 := lt_of_blk bl_2
 have lt_bk3 := lt_of_blk bl_3
 have lt_bk6 := lt_of_blk bl_4
 have lt_bk7 := lt_of_blk bl_5
 have lt_bk4 := lt_of_blk bl_6
 refine wp_seq_k fun K77 hK77 => ?_
 refine wp_seq_k fun K78 hK78 => ?_
 as_aux_lemma =>
 refine region_dk 1 [(15, 0)] [[]] (rel [is (.int .i64 0)])
  ⟨is_k, trivial⟩
  ⟨fun f s W c d g j l a => opv rfl rfl (by simp [go_sem]) rfl, trivial⟩ ?_
 intro f69 s69 W69 hB69 g69 hg69
 have fB69 := hB69.f fB_
 have z69 := hB69.below.size
 have b69_0 := hB69.b bl_0
 have b69_1 := hB69.b bl_1
 have b69_2 := hB69.b bl_2
 have b69_3 := hB69.b bl_3
 have b69_4 := hB69.b bl_4
 have b69_5 := hB69.b bl_5
 have b69_6 := hB69.b bl_6
 have q59' := (ft_0.below hB69.below)
 refine hK78 _ _ ?_
 have k69_2 := kt hg69 2 k_2
 have k69_4 := kt hg69 4 k_4
 have k69_5 := kt hg69 5 k_5
 have k69_6 := kt hg69 6 k_6
 have k69_7 := kt hg69 7 k_7
 have k69_9 := kt hg69 9 k_9
 have k69_10 := kt hg69 10 k_10
 have k69_8 := kt hg69 8 k_8
 have k69_15 := kt hg69 15 (hB69.is 0)
 clear hB69 hK78 hg69
 refine wp_block ?_
 refine wp_loop_rounds 4 ?_
 rw [rounds_succ]
 refine wp_seq_k fun K79 hK79 => ?_
 refine wp_seq_k fun K80 hK80 => ?_
 as_aux_lemma =>
 refine region_dk 2 [(130, 0), (131, 1)] [[], [0]] (rel [is (.int .i64 0),
   is (.bool true)])
  ⟨is_k, is_k, trivial⟩
  ⟨fun f s W c d g j l a => opv rfl rfl (by simp [go_sem, a.e 15 k69_15]) rfl,
  fun f s W c d g j l a => opv rfl rfl (by simp [go_sem, a.e 130 (d 0 rfl)]) rfl, trivial⟩ ?_
 intro f70 s70 W70 hB70 g70 hg70
 have fB70 := hB70.f fB69
 have z70 := hB70.below.size
 have b70_0 := hB70.b b69_0
 have b70_1 := hB70.b b69_1
 have b70_2 := hB70.b b69_2
 have b70_3 := hB70.b b69_3
 have b70_4 := hB70.b b69_4
 have b70_5 := hB70.b b69_5
 have b70_6 := hB70.b b69_6
 have q60' := (q59'.below hB70.below)
 refine hK80 _ _ ?_
 have k70_2 := kt hg70 2 k69_2
 have k70_4 := kt hg70 4 k69_4
 have k70_5 := kt hg70 5 k69_5
 have k70_6 := kt hg70 6 k69_6
 have k70_7 := kt hg70 7 k69_7
 have k70_9 := kt hg70 9 k69_9
 have k70_10 := kt hg70 10 k69_10
 have k70_8 := kt hg70 8 k69_8
 have k70_15 := kt hg70 15 k69_15
 have k70_131 := kt hg70 131 (hB70.is 1)
 clear b69_0 b69_1 b69_2 b69_3 b69_4 b69_5 b69_6 fB69 hB70 hK80 hg70 k69_10 k69_15 k69_2 k69_4 k69_5 k69_6 k69_7 k69_8 k69_9
 refine wp_cond_true ((fr_eval rfl).trans k70_131) ?_
 refine wp_skip ?_
 refine hK79 _ _ ?_
 clear hK79
 refine wp_seq_k fun K82 hK82 => ?_
 refine wp_block ?_
 as_aux_lemma =>
 refine region_dk 31 [(134, 0), (135, 1), (136, 2), (137, 3), (138, 4), (139, 5), (140, 6), (141, 7), (142, 8), (143, 9), (144, 10), (145, 11), (146, 12), (147, 13), (148, 14), (149, 15), (150, 16), (151, 17), (152, 18), (153, 19), (154, 20), (155, 21), (156, 22), (157, 23), (158, 24), (159, 25), (160, 26), (161, 27), (162, 28), (163, 29), (164, 30)] [[], [], [], [], [2, 3], [2, 3, 4], [], [], [7], [6, 7, 8], [6, 7, 8, 9], [6, 7, 8, 9, 10], [6, 7, 8, 9, 10, 11], [2, 3, 4, 5, 6, 7, 8, 9, 10, 11, 12], [2, 3, 4, 5, 6, 7, 8, 9, 10, 11, 12, 13], [], [], [15, 16], [15, 16, 17], [], [], [20], [19, 20, 21], [19, 20, 21, 22], [19, 20, 21, 22, 23], [19, 20, 21, 22, 23, 24], [19, 20, 21, 22, 23, 24, 25], [15, 16, 17, 18, 19, 20, 21, 22, 23, 24, 25, 26], [2, 3, 4, 5, 6, 7, 8, 9, 10, 11, 12, 13, 14, 15, 16, 17, 18, 19, 20, 21, 22, 23, 24, 25, 26, 27], [0, 1, 2, 3, 4, 5, 6, 7, 8, 9, 10, 11, 12, 13, 14, 15, 16, 17, 18, 19, 20, 21, 22, 23, 24, 25, 26, 27, 28], [0, 1, 2, 3, 4, 5, 6, 7, 8, 9, 10, 11, 12, 13, 14, 15, 16, 17, 18, 19, 20, 21, 22, 23, 24, 25, 26, 27, 28, 29], [0, 1, 2, 3, 4, 5, 6, 7, 8, 9, 10, 11, 12, 13, 14, 15, 16, 17, 18, 19, 20, 21, 22, 23, 24, 25, 26, 27, 28, 29, 30]] (rel [is (.slice (some ⟨ga19, 0, none⟩) (3) (ca19)),
   is (.int .i64 0),
   is (.slice (some ⟨bk3, 0, none⟩) (3) (3)),
   is (.int .i64 0),
   is (.pointer (some ⟨bk3, 0, none⟩)),
   is (.int .i64 r1),
   is (.int .i64 0),
   is (.pointer (some ⟨bk0, 22, none⟩)),
   is (.pointer (some ⟨bk0, 28, none⟩)),
   is (.pointer (some ⟨bk0, 28, none⟩)),
   is (.int .u8 ((sv 28))),
   is (.int .i64 ((sv 28))),
   is (.int .i64 (((sv 28) % 2))),
   is (.int .i64 (r1 - ((sv 28) % 2))),
   is (.int .i64 (max 0 (r1 - ((sv 28) % 2)))),
   is (.slice (some ⟨bk3, 0, none⟩) (3) (3)),
   is (.int .i64 0),
   is (.pointer (some ⟨bk3, 0, none⟩)),
   is (.int .i64 r1),
   is (.int .i64 0),
   is (.pointer (some ⟨bk0, 22, none⟩)),
   is (.pointer (some ⟨bk0, 28, none⟩)),
   is (.pointer (some ⟨bk0, 28, none⟩)),
   is (.int .u8 ((sv 28))),
   is (.int .i64 ((sv 28))),
   is (.int .i64 (((sv 28) / 2))),
   is (.int .i64 ((((sv 28) / 2) % 2))),
   is (.int .i64 (r1 + (((sv 28) / 2) % 2))),
   is (.agg #[.int .i64 nl0, .int .i64 nh0]),
   is (.pointer (some ⟨ga19, 0, none⟩)),
   is (.pointer (some ⟨ga19, 1, none⟩))])
  ⟨is_k, is_k, is_k, is_k, is_k, is_k, is_k, is_k, is_k, is_k, is_k, is_k, is_k, is_k, is_k, is_k, is_k, is_k, is_k, is_k, is_k, is_k, is_k, is_k, is_k, is_k, is_k, is_k, is_k, is_k, is_k, trivial⟩
  ⟨fun f s W c d g j l a => opv rfl rfl (by simp [go_sem, a.e 8 k70_8]) rfl,
  fun f s W c d g j l a => opv rfl rfl (by simp [go_sem, a.e 15 k70_15]) rfl,
  fun f s W c d g j l a => opv rfl rfl (by simp [go_sem, a.e 9 k70_9]) rfl,
  fun f s W c d g j l a => opv rfl rfl (by simp [go_sem, a.e 15 k70_15]) rfl,
  fun f s W c d g j l a => opv rfl rfl (by simp [go_sem, a.e 136 (d 2 rfl), a.e 137 (d 3 rfl)]) rfl,
  fun f s W c d g j l a => opv rfl rfl (by simp [go_sem, a.e 138 (d 4 rfl), cb b70_3 c 0]) rfl,
  fun f s W c d g j l a => opv rfl rfl (by simp [go_sem, a.e 15 k70_15]) rfl,
  fun f s W c d g j l a => opv rfl rfl (by simp [go_sem, a.e 2 k70_2]) rfl,
  fun f s W c d g j l a => opv rfl rfl (by simp [go_sem, a.e 141 (d 7 rfl)]) rfl,
  fun f s W c d g j l a => opv rfl rfl (by simp [go_sem, a.e 142 (d 8 rfl), a.e 140 (d 6 rfl)]) rfl,
  fun f s W c d g j l a => opv rfl rfl (by simp [go_sem, a.e 143 (d 9 rfl), cb b70_0 c 28]) rfl,
  fun f s W c d g j l a => by have cv_ := IntWalk.i64_in (sv 28) (by omega); exact opv rfl rfl (by simp [go_sem, a.e 144 (d 10 rfl), cv_]) rfl,
  fun f s W c d g j l a => by have qu_ : ((sv 28)).tmod 2 = ((sv 28) % 2) := Int.tmod_eq_emod_of_nonneg (by omega); have qw_ := IntWalk.i64_in ((sv 28) % 2) (by omega); exact opv rfl rfl (by simp [go_sem, a.e 145 (d 11 rfl), qu_, qw_]) rfl,
  fun f s W c d g j l a => opv rfl rfl (by simp [go_sem, a.e 139 (d 5 rfl), a.e 146 (d 12 rfl), IntWalk.i64_in (r1 - ((sv 28) % 2)) (by omega)]) rfl,
  fun f s W c d g j l a => opv rfl rfl (by simp [go_sem, a.e 147 (d 13 rfl)]) rfl,
  fun f s W c d g j l a => opv rfl rfl (by simp [go_sem, a.e 9 k70_9]) rfl,
  fun f s W c d g j l a => opv rfl rfl (by simp [go_sem, a.e 15 k70_15]) rfl,
  fun f s W c d g j l a => opv rfl rfl (by simp [go_sem, a.e 149 (d 15 rfl), a.e 150 (d 16 rfl)]) rfl,
  fun f s W c d g j l a => opv rfl rfl (by simp [go_sem, a.e 151 (d 17 rfl), cb b70_3 c 0]) rfl,
  fun f s W c d g j l a => opv rfl rfl (by simp [go_sem, a.e 15 k70_15]) rfl,
  fun f s W c d g j l a => opv rfl rfl (by simp [go_sem, a.e 2 k70_2]) rfl,
  fun f s W c d g j l a => opv rfl rfl (by simp [go_sem, a.e 154 (d 20 rfl)]) rfl,
  fun f s W c d g j l a => opv rfl rfl (by simp [go_sem, a.e 155 (d 21 rfl), a.e 153 (d 19 rfl)]) rfl,
  fun f s W c d g j l a => opv rfl rfl (by simp [go_sem, a.e 156 (d 22 rfl), cb b70_0 c 28]) rfl,
  fun f s W c d g j l a => by have cv_ := IntWalk.i64_in (sv 28) (by omega); exact opv rfl rfl (by simp [go_sem, a.e 157 (d 23 rfl), cv_]) rfl,
  fun f s W c d g j l a => by have qu_ : ((sv 28)).tdiv 2 = ((sv 28) / 2) := Int.tdiv_eq_ediv_of_nonneg (by omega); have qw_ := IntWalk.i64_in ((sv 28) / 2) (by omega); exact opv rfl rfl (by simp [go_sem, a.e 158 (d 24 rfl), qu_, qw_]) rfl,
  fun f s W c d g j l a => by have qu_ : (((sv 28) / 2)).tmod 2 = (((sv 28) / 2) % 2) := Int.tmod_eq_emod_of_nonneg (by omega); have qw_ := IntWalk.i64_in (((sv 28) / 2) % 2) (by omega); exact opv rfl rfl (by simp [go_sem, a.e 159 (d 25 rfl), qu_, qw_]) rfl,
  fun f s W c d g j l a => opv rfl rfl (by simp [go_sem, a.e 152 (d 18 rfl), a.e 160 (d 26 rfl), IntWalk.i64_in (r1 + (((sv 28) / 2) % 2)) (by omega)]) rfl,
  fun f s W c d g j l a => opDo_call rfl rfl (by simp [go_sem, a.e 148 (d 14 rfl), a.e 161 (d 27 rfl)]) (pubSpan_any (max 0 (r1 - ((sv 28) % 2))) (r1 + (((sv 28) / 2) % 2)) W) ((fun e W' h => by have h1 := h.1; rw [hnl0.out, hnh0.out] at h1; exact ⟨_, h1, h.2, rfl⟩)),
  fun f s W c d g j l a => opv rfl rfl (by simp [go_sem, a.e 134 (d 0 rfl), a.e 135 (d 1 rfl)]) rfl,
  fun f s W c d g j l a => opv rfl rfl (by simp [go_sem, a.e 163 (d 29 rfl)]) rfl, trivial⟩ ?_
 intro f71 s71 W71 hB71 g71 hg71
 have fB71 := hB71.f fB70
 have z71 := hB71.below.size
 have b71_0 := hB71.b b70_0
 have b71_1 := hB71.b b70_1
 have b71_2 := hB71.b b70_2
 have b71_3 := hB71.b b70_3
 have b71_4 := hB71.b b70_4
 have b71_5 := hB71.b b70_5
 have b71_6 := hB71.b b70_6
 have q61' := (q60'.below hB71.below)
 have k71_2 := kt hg71 2 k70_2
 have k71_4 := kt hg71 4 k70_4
 have k71_5 := kt hg71 5 k70_5
 have k71_6 := kt hg71 6 k70_6
 have k71_7 := kt hg71 7 k70_7
 have k71_9 := kt hg71 9 k70_9
 have k71_10 := kt hg71 10 k70_10
 have k71_8 := kt hg71 8 k70_8
 have k71_15 := kt hg71 15 k70_15
 have k71_131 := kt hg71 131 k70_131
 have k71_162 := kt hg71 162 (hB71.is 28)
 have k71_164 := kt hg71 164 (hB71.is 30)
 obtain ⟨W72, st72, ow72, ot72, z72, fB72⟩ := storeR_tail (ty := 33) (o := 1) (v := .agg #[.int .i64 nl0, .int .i64 nh0]) [.int .i64 al0, .int .i64 nl0, .int .i64 nh0, .int .i64 al1, .int .i64 0, .int .i64 0, .int .i64 al2, .int .i64 0, .int .i64 0] fB71 (Nat.le_refl _) (OwnN.row q61') (by kernel_rfl) (Nat.le_of_ble_eq_true rfl) rfl rfl rfl
 refine tail_skip (o := _) rfl ⟨rfl, rfl⟩ (st72 (fr_ev k71_164) (fr_ev k71_162)) ?_
 have b72_0 := ot72 _ _ (fun e => ownN_ne q61' b71_0 (by decide) _ rfl e.symm) b71_0
 have b72_1 := ot72 _ _ (fun e => ownN_ne q61' b71_1 (by decide) _ rfl e.symm) b71_1
 have b72_2 := ot72 _ _ (fun e => ownN_ne q61' b71_2 (by decide) _ rfl e.symm) b71_2
 have b72_3 := ot72 _ _ (fun e => ownN_ne q61' b71_3 (by decide) _ rfl e.symm) b71_3
 have b72_4 := ot72 _ _ (fun e => ownN_ne q61' b71_4 (by decide) _ rfl e.symm) b71_4
 have b72_5 := ot72 _ _ (fun e => ownN_ne q61' b71_5 (by decide) _ rfl e.symm) b71_5
 have b72_6 := ot72 _ _ (fun e => ownN_ne q61' b71_6 (by decide) _ rfl e.symm) b71_6
 have on72 : OwnN 72 3 w.heap.size 3 [.int .i64 al0, .int .i64 nl0, .int .i64 nh0, .int .i64 al1, .int .i64 0, .int .i64 0, .int .i64 al2, .int .i64 0, .int .i64 0] (some ⟨ga19, 0, none⟩) ca19 W72 := .inr ⟨_, rfl, ow72⟩
 refine wpOps_end ?_
 refine inBlock_normal ?_
 refine hK82 _ _ ?_
 as_aux_lemma =>
 refine region_dk 3 [(132, 0), (133, 1), (15, 2)] [[], [0], [0, 1]] (rel [is (.int .i64 0),
   is (.int .i64 1),
   is (.int .i64 1)])
  ⟨is_k, is_k, is_k, trivial⟩
  ⟨fun f s W c d g j l a => opv rfl rfl (by simp [go_sem, a.e 15 ((j 2 15 rfl rfl).trans k71_15)]) rfl,
  fun f s W c d g j l a => opv rfl rfl (by simp [go_sem, a.e 132 (d 0 rfl), IntWalk.i64_in (1) (by omega)]) rfl,
  fun f s W c d g j l a => opv rfl rfl (by simp [go_sem, a.e 133 (d 1 rfl)]) rfl, trivial⟩ ?_
 clear b70_0 b70_1 b70_2 b70_3 b70_4 b70_5 b70_6 b71_0 b71_1 b71_2 b71_3 b71_4 b71_5 b71_6 fB70 fB71 hB71 hK82 hg71 k70_10 k70_131 k70_15 k70_2 k70_4 k70_5 k70_6 k70_7 k70_8 k70_9 k71_15 ot72 st72
 intro f73 s73 W73 hB73 g73 hg73
 have fB73 := hB73.f fB72
 have z73 := hB73.below.size
 have b73_0 := hB73.b b72_0
 have b73_1 := hB73.b b72_1
 have b73_2 := hB73.b b72_2
 have b73_3 := hB73.b b72_3
 have b73_4 := hB73.b b72_4
 have b73_5 := hB73.b b72_5
 have b73_6 := hB73.b b72_6
 have q62' := (on72.below hB73.below)
 refine wpOps_end ?_
 have k73_2 := kt hg73 2 k71_2
 have k73_4 := kt hg73 4 k71_4
 have k73_5 := kt hg73 5 k71_5
 have k73_6 := kt hg73 6 k71_6
 have k73_7 := kt hg73 7 k71_7
 have k73_9 := kt hg73 9 k71_9
 have k73_10 := kt hg73 10 k71_10
 have k73_8 := kt hg73 8 k71_8
 have k73_131 := kt hg73 131 k71_131
 have k73_162 := kt hg73 162 k71_162
 have k73_164 := kt hg73 164 k71_164
 have k73_15 := kt hg73 15 (hB73.is 2)
 refine then_normal ?_
 rw [rounds_succ]
 clear b72_0 b72_1 b72_2 b72_3 b72_4 b72_5 b72_6 fB72 hB73 hg73 k71_10 k71_131 k71_162 k71_164 k71_2 k71_4 k71_5 k71_6 k71_7 k71_8 k71_9 k73_131
 refine wp_seq_k fun K83 hK83 => ?_
 refine wp_seq_k fun K84 hK84 => ?_
 as_aux_lemma =>
 refine region_dk 2 [(130, 0), (131, 1)] [[], [0]] (rel [is (.int .i64 1),
   is (.bool true)])
  ⟨is_k, is_k, trivial⟩
  ⟨fun f s W c d g j l a => opv rfl rfl (by simp [go_sem, a.e 15 k73_15]) rfl,
  fun f s W c d g j l a => opv rfl rfl (by simp [go_sem, a.e 130 (d 0 rfl)]) rfl, trivial⟩ ?_
 intro f74 s74 W74 hB74 g74 hg74
 have fB74 := hB74.f fB73
 have z74 := hB74.below.size
 have b74_0 := hB74.b b73_0
 have b74_1 := hB74.b b73_1
 have b74_2 := hB74.b b73_2
 have b74_3 := hB74.b b73_3
 have b74_4 := hB74.b b73_4
 have b74_5 := hB74.b b73_5
 have b74_6 := hB74.b b73_6
 have q63' := (q62'.below hB74.below)
 refine hK84 _ _ ?_
 have k74_2 := kt hg74 2 k73_2
 have k74_4 := kt hg74 4 k73_4
 have k74_5 := kt hg74 5 k73_5
 have k74_6 := kt hg74 6 k73_6
 have k74_7 := kt hg74 7 k73_7
 have k74_9 := kt hg74 9 k73_9
 have k74_10 := kt hg74 10 k73_10
 have k74_8 := kt hg74 8 k73_8
 have k74_162 := kt hg74 162 k73_162
 have k74_164 := kt hg74 164 k73_164
 have k74_15 := kt hg74 15 k73_15
 have k74_131 := kt hg74 131 (hB74.is 1)
 clear b73_0 b73_1 b73_2 b73_3 b73_4 b73_5 b73_6 fB73 hB74 hK84 hg74 k73_10 k73_15 k73_162 k73_164 k73_2 k73_4 k73_5 k73_6 k73_7 k73_8 k73_9 k74_162 k74_164
 refine wp_cond_true ((fr_eval rfl).trans k74_131) ?_
 refine wp_skip ?_
 refine hK83 _ _ ?_
 clear hK83
 refine wp_seq_k fun K86 hK86 => ?_
 refine wp_block ?_
 as_aux_lemma =>
 refine region_dk 31 [(134, 0), (135, 1), (136, 2), (137, 3), (138, 4), (139, 5), (140, 6), (141, 7), (142, 8), (143, 9), (144, 10), (145, 11), (146, 12), (147, 13), (148, 14), (149, 15), (150, 16), (151, 17), (152, 18), (153, 19), (154, 20), (155, 21), (156, 22), (157, 23), (158, 24), (159, 25), (160, 26), (161, 27), (162, 28), (163, 29), (164, 30)] [[], [], [], [], [2, 3], [2, 3, 4], [], [], [7], [6, 7, 8], [6, 7, 8, 9], [6, 7, 8, 9, 10], [6, 7, 8, 9, 10, 11], [2, 3, 4, 5, 6, 7, 8, 9, 10, 11, 12], [2, 3, 4, 5, 6, 7, 8, 9, 10, 11, 12, 13], [], [], [15, 16], [15, 16, 17], [], [], [20], [19, 20, 21], [19, 20, 21, 22], [19, 20, 21, 22, 23], [19, 20, 21, 22, 23, 24], [19, 20, 21, 22, 23, 24, 25], [15, 16, 17, 18, 19, 20, 21, 22, 23, 24, 25, 26], [2, 3, 4, 5, 6, 7, 8, 9, 10, 11, 12, 13, 14, 15, 16, 17, 18, 19, 20, 21, 22, 23, 24, 25, 26, 27], [0, 1, 2, 3, 4, 5, 6, 7, 8, 9, 10, 11, 12, 13, 14, 15, 16, 17, 18, 19, 20, 21, 22, 23, 24, 25, 26, 27, 28], [0, 1, 2, 3, 4, 5, 6, 7, 8, 9, 10, 11, 12, 13, 14, 15, 16, 17, 18, 19, 20, 21, 22, 23, 24, 25, 26, 27, 28, 29], [0, 1, 2, 3, 4, 5, 6, 7, 8, 9, 10, 11, 12, 13, 14, 15, 16, 17, 18, 19, 20, 21, 22, 23, 24, 25, 26, 27, 28, 29, 30]] (rel [is (.slice (some ⟨ga19, 0, none⟩) (3) (ca19)),
   is (.int .i64 1),
   is (.slice (some ⟨bk3, 0, none⟩) (3) (3)),
   is (.int .i64 1),
   is (.pointer (some ⟨bk3, 1, none⟩)),
   is (.int .i64 qq1),
   is (.int .i64 1),
   is (.pointer (some ⟨bk0, 22, none⟩)),
   is (.pointer (some ⟨bk0, 28, none⟩)),
   is (.pointer (some ⟨bk0, 29, none⟩)),
   is (.int .u8 ((sv 29))),
   is (.int .i64 ((sv 29))),
   is (.int .i64 (((sv 29) % 2))),
   is (.int .i64 (qq1 - ((sv 29) % 2))),
   is (.int .i64 (max 0 (qq1 - ((sv 29) % 2)))),
   is (.slice (some ⟨bk3, 0, none⟩) (3) (3)),
   is (.int .i64 1),
   is (.pointer (some ⟨bk3, 1, none⟩)),
   is (.int .i64 qq1),
   is (.int .i64 1),
   is (.pointer (some ⟨bk0, 22, none⟩)),
   is (.pointer (some ⟨bk0, 28, none⟩)),
   is (.pointer (some ⟨bk0, 29, none⟩)),
   is (.int .u8 ((sv 29))),
   is (.int .i64 ((sv 29))),
   is (.int .i64 (((sv 29) / 2))),
   is (.int .i64 ((((sv 29) / 2) % 2))),
   is (.int .i64 (qq1 + (((sv 29) / 2) % 2))),
   is (.agg #[.int .i64 nl1, .int .i64 nh1]),
   is (.pointer (some ⟨ga19, 3, none⟩)),
   is (.pointer (some ⟨ga19, 4, none⟩))])
  ⟨is_k, is_k, is_k, is_k, is_k, is_k, is_k, is_k, is_k, is_k, is_k, is_k, is_k, is_k, is_k, is_k, is_k, is_k, is_k, is_k, is_k, is_k, is_k, is_k, is_k, is_k, is_k, is_k, is_k, is_k, is_k, trivial⟩
  ⟨fun f s W c d g j l a => opv rfl rfl (by simp [go_sem, a.e 8 k74_8]) rfl,
  fun f s W c d g j l a => opv rfl rfl (by simp [go_sem, a.e 15 k74_15]) rfl,
  fun f s W c d g j l a => opv rfl rfl (by simp [go_sem, a.e 9 k74_9]) rfl,
  fun f s W c d g j l a => opv rfl rfl (by simp [go_sem, a.e 15 k74_15]) rfl,
  fun f s W c d g j l a => opv rfl rfl (by simp [go_sem, a.e 136 (d 2 rfl), a.e 137 (d 3 rfl)]) rfl,
  fun f s W c d g j l a => opv rfl rfl (by simp [go_sem, a.e 138 (d 4 rfl), cb b74_3 c 1]) rfl,
  fun f s W c d g j l a => opv rfl rfl (by simp [go_sem, a.e 15 k74_15]) rfl,
  fun f s W c d g j l a => opv rfl rfl (by simp [go_sem, a.e 2 k74_2]) rfl,
  fun f s W c d g j l a => opv rfl rfl (by simp [go_sem, a.e 141 (d 7 rfl)]) rfl,
  fun f s W c d g j l a => opv rfl rfl (by simp [go_sem, a.e 142 (d 8 rfl), a.e 140 (d 6 rfl)]) rfl,
  fun f s W c d g j l a => opv rfl rfl (by simp [go_sem, a.e 143 (d 9 rfl), cb b74_0 c 29]) rfl,
  fun f s W c d g j l a => by have cv_ := IntWalk.i64_in (sv 29) (by omega); exact opv rfl rfl (by simp [go_sem, a.e 144 (d 10 rfl), cv_]) rfl,
  fun f s W c d g j l a => by have qu_ : ((sv 29)).tmod 2 = ((sv 29) % 2) := Int.tmod_eq_emod_of_nonneg (by omega); have qw_ := IntWalk.i64_in ((sv 29) % 2) (by omega); exact opv rfl rfl (by simp [go_sem, a.e 145 (d 11 rfl), qu_, qw_]) rfl,
  fun f s W c d g j l a => opv rfl rfl (by simp [go_sem, a.e 139 (d 5 rfl), a.e 146 (d 12 rfl), IntWalk.i64_in (qq1 - ((sv 29) % 2)) (by omega)]) rfl,
  fun f s W c d g j l a => opv rfl rfl (by simp [go_sem, a.e 147 (d 13 rfl)]) rfl,
  fun f s W c d g j l a => opv rfl rfl (by simp [go_sem, a.e 9 k74_9]) rfl,
  fun f s W c d g j l a => opv rfl rfl (by simp [go_sem, a.e 15 k74_15]) rfl,
  fun f s W c d g j l a => opv rfl rfl (by simp [go_sem, a.e 149 (d 15 rfl), a.e 150 (d 16 rfl)]) rfl,
  fun f s W c d g j l a => opv rfl rfl (by simp [go_sem, a.e 151 (d 17 rfl), cb b74_3 c 1]) rfl,
  fun f s W c d g j l a => opv rfl rfl (by simp [go_sem, a.e 15 k74_15]) rfl,
  fun f s W c d g j l a => opv rfl rfl (by simp [go_sem, a.e 2 k74_2]) rfl,
  fun f s W c d g j l a => opv rfl rfl (by simp [go_sem, a.e 154 (d 20 rfl)]) rfl,
  fun f s W c d g j l a => opv rfl rfl (by simp [go_sem, a.e 155 (d 21 rfl), a.e 153 (d 19 rfl)]) rfl,
  fun f s W c d g j l a => opv rfl rfl (by simp [go_sem, a.e 156 (d 22 rfl), cb b74_0 c 29]) rfl,
  fun f s W c d g j l a => by have cv_ := IntWalk.i64_in (sv 29) (by omega); exact opv rfl rfl (by simp [go_sem, a.e 157 (d 23 rfl), cv_]) rfl,
  fun f s W c d g j l a => by have qu_ : ((sv 29)).tdiv 2 = ((sv 29) / 2) := Int.tdiv_eq_ediv_of_nonneg (by omega); have qw_ := IntWalk.i64_in ((sv 29) / 2) (by omega); exact opv rfl rfl (by simp [go_sem, a.e 158 (d 24 rfl), qu_, qw_]) rfl,
  fun f s W c d g j l a => by have qu_ : (((sv 29) / 2)).tmod 2 = (((sv 29) / 2) % 2) := Int.tmod_eq_emod_of_nonneg (by omega); have qw_ := IntWalk.i64_in (((sv 29) / 2) % 2) (by omega); exact opv rfl rfl (by simp [go_sem, a.e 159 (d 25 rfl), qu_, qw_]) rfl,
  fun f s W c d g j l a => opv rfl rfl (by simp [go_sem, a.e 152 (d 18 rfl), a.e 160 (d 26 rfl), IntWalk.i64_in (qq1 + (((sv 29) / 2) % 2)) (by omega)]) rfl,
  fun f s W c d g j l a => opDo_call rfl rfl (by simp [go_sem, a.e 148 (d 14 rfl), a.e 161 (d 27 rfl)]) (pubSpan_any (max 0 (qq1 - ((sv 29) % 2))) (qq1 + (((sv 29) / 2) % 2)) W) ((fun e W' h => by have h1 := h.1; rw [hnl1.out, hnh1.out] at h1; exact ⟨_, h1, h.2, rfl⟩)),
  fun f s W c d g j l a => opv rfl rfl (by simp [go_sem, a.e 134 (d 0 rfl), a.e 135 (d 1 rfl)]) rfl,
  fun f s W c d g j l a => opv rfl rfl (by simp [go_sem, a.e 163 (d 29 rfl)]) rfl, trivial⟩ ?_
 intro f75 s75 W75 hB75 g75 hg75
 have fB75 := hB75.f fB74
 have z75 := hB75.below.size
 have b75_0 := hB75.b b74_0
 have b75_1 := hB75.b b74_1
 have b75_2 := hB75.b b74_2
 have b75_3 := hB75.b b74_3
 have b75_4 := hB75.b b74_4
 have b75_5 := hB75.b b74_5
 have b75_6 := hB75.b b74_6
 have q64' := (q63'.below hB75.below)
 have k75_2 := kt hg75 2 k74_2
 have k75_4 := kt hg75 4 k74_4
 have k75_5 := kt hg75 5 k74_5
 have k75_6 := kt hg75 6 k74_6
 have k75_7 := kt hg75 7 k74_7
 have k75_9 := kt hg75 9 k74_9
 have k75_10 := kt hg75 10 k74_10
 have k75_8 := kt hg75 8 k74_8
 have k75_15 := kt hg75 15 k74_15
 have k75_131 := kt hg75 131 k74_131
 have k75_162 := kt hg75 162 (hB75.is 28)
 have k75_164 := kt hg75 164 (hB75.is 30)
 obtain ⟨W76, st76, ow76, ot76, z76, fB76⟩ := storeR_tail (ty := 33) (o := 4) (v := .agg #[.int .i64 nl1, .int .i64 nh1]) [.int .i64 al0, .int .i64 nl0, .int .i64 nh0, .int .i64 al1, .int .i64 nl1, .int .i64 nh1, .int .i64 al2, .int .i64 0, .int .i64 0] fB75 (Nat.le_refl _) (OwnN.row q64') (by kernel_rfl) (Nat.le_of_ble_eq_true rfl) rfl rfl rfl
 refine tail_skip (o := _) rfl ⟨rfl, rfl⟩ (st76 (fr_ev k75_164) (fr_ev k75_162)) ?_
 have b76_0 := ot76 _ _ (fun e => ownN_ne q64' b75_0 (by decide) _ rfl e.symm) b75_0
 have b76_1 := ot76 _ _ (fun e => ownN_ne q64' b75_1 (by decide) _ rfl e.symm) b75_1
 have b76_2 := ot76 _ _ (fun e => ownN_ne q64' b75_2 (by decide) _ rfl e.symm) b75_2
 have b76_3 := ot76 _ _ (fun e => ownN_ne q64' b75_3 (by decide) _ rfl e.symm) b75_3
 have b76_4 := ot76 _ _ (fun e => ownN_ne q64' b75_4 (by decide) _ rfl e.symm) b75_4
 have b76_5 := ot76 _ _ (fun e => ownN_ne q64' b75_5 (by decide) _ rfl e.symm) b75_5
 have b76_6 := ot76 _ _ (fun e => ownN_ne q64' b75_6 (by decide) _ rfl e.symm) b75_6
 have on76 : OwnN 72 3 w.heap.size 3 [.int .i64 al0, .int .i64 nl0, .int .i64 nh0, .int .i64 al1, .int .i64 nl1, .int .i64 nh1, .int .i64 al2, .int .i64 0, .int .i64 0] (some ⟨ga19, 0, none⟩) ca19 W76 := .inr ⟨_, rfl, ow76⟩
 refine wpOps_end ?_
 refine inBlock_normal ?_
 refine hK86 _ _ ?_
 as_aux_lemma =>
 refine region_dk 3 [(132, 0), (133, 1), (15, 2)] [[], [0], [0, 1]] (rel [is (.int .i64 1),
   is (.int .i64 2),
   is (.int .i64 2)])
  ⟨is_k, is_k, is_k, trivial⟩
  ⟨fun f s W c d g j l a => opv rfl rfl (by simp [go_sem, a.e 15 ((j 2 15 rfl rfl).trans k75_15)]) rfl,
  fun f s W c d g j l a => opv rfl rfl (by simp [go_sem, a.e 132 (d 0 rfl), IntWalk.i64_in (2) (by omega)]) rfl,
  fun f s W c d g j l a => opv rfl rfl (by simp [go_sem, a.e 133 (d 1 rfl)]) rfl, trivial⟩ ?_
 clear b74_0 b74_1 b74_2 b74_3 b74_4 b74_5 b74_6 b75_0 b75_1 b75_2 b75_3 b75_4 b75_5 b75_6 fB74 fB75 hB75 hK86 hg75 k74_10 k74_131 k74_15 k74_2 k74_4 k74_5 k74_6 k74_7 k74_8 k74_9 k75_15 ot76 st76
 intro f77 s77 W77 hB77 g77 hg77
 have fB77 := hB77.f fB76
 have z77 := hB77.below.size
 have b77_0 := hB77.b b76_0
 have b77_1 := hB77.b b76_1
 have b77_2 := hB77.b b76_2
 have b77_3 := hB77.b b76_3
 have b77_4 := hB77.b b76_4
 have b77_5 := hB77.b b76_5
 have b77_6 := hB77.b b76_6
 have q65' := (on76.below hB77.below)
 refine wpOps_end ?_
 have k77_2 := kt hg77 2 k75_2
 have k77_4 := kt hg77 4 k75_4
 have k77_5 := kt hg77 5 k75_5
 have k77_6 := kt hg77 6 k75_6
 have k77_7 := kt hg77 7 k75_7
 have k77_9 := kt hg77 9 k75_9
 have k77_10 := kt hg77 10 k75_10
 have k77_8 := kt hg77 8 k75_8
 have k77_131 := kt hg77 131 k75_131
 have k77_162 := kt hg77 162 k75_162
 have k77_164 := kt hg77 164 k75_164
 have k77_15 := kt hg77 15 (hB77.is 2)
 refine then_normal ?_
 rw [rounds_succ]
 clear b76_0 b76_1 b76_2 b76_3 b76_4 b76_5 b76_6 fB76 hB77 hg77 k75_10 k75_131 k75_162 k75_164 k75_2 k75_4 k75_5 k75_6 k75_7 k75_8 k75_9 k77_131
 refine wp_seq_k fun K87 hK87 => ?_
 refine wp_seq_k fun K88 hK88 => ?_
 as_aux_lemma =>
 refine region_dk 2 [(130, 0), (131, 1)] [[], [0]] (rel [is (.int .i64 2),
   is (.bool true)])
  ⟨is_k, is_k, trivial⟩
  ⟨fun f s W c d g j l a => opv rfl rfl (by simp [go_sem, a.e 15 k77_15]) rfl,
  fun f s W c d g j l a => opv rfl rfl (by simp [go_sem, a.e 130 (d 0 rfl)]) rfl, trivial⟩ ?_
 intro f78 s78 W78 hB78 g78 hg78
 have fB78 := hB78.f fB77
 have z78 := hB78.below.size
 have b78_0 := hB78.b b77_0
 have b78_1 := hB78.b b77_1
 have b78_2 := hB78.b b77_2
 have b78_3 := hB78.b b77_3
 have b78_4 := hB78.b b77_4
 have b78_5 := hB78.b b77_5
 have b78_6 := hB78.b b77_6
 have q66' := (q65'.below hB78.below)
 refine hK88 _ _ ?_
 have k78_2 := kt hg78 2 k77_2
 have k78_4 := kt hg78 4 k77_4
 have k78_5 := kt hg78 5 k77_5
 have k78_6 := kt hg78 6 k77_6
 have k78_7 := kt hg78 7 k77_7
 have k78_9 := kt hg78 9 k77_9
 have k78_10 := kt hg78 10 k77_10
 have k78_8 := kt hg78 8 k77_8
 have k78_162 := kt hg78 162 k77_162
 have k78_164 := kt hg78 164 k77_164
 have k78_15 := kt hg78 15 k77_15
 have k78_131 := kt hg78 131 (hB78.is 1)
 clear b77_0 b77_1 b77_2 b77_3 b77_4 b77_5 b77_6 fB77 hB78 hK88 hg78 k77_10 k77_15 k77_162 k77_164 k77_2 k77_4 k77_5 k77_6 k77_7 k77_8 k77_9 k78_162 k78_164
 refine wp_cond_true ((fr_eval rfl).trans k78_131) ?_
 refine wp_skip ?_
 refine hK87 _ _ ?_
 clear hK87
 refine wp_seq_k fun K90 hK90 => ?_
 refine wp_block ?_
 as_aux_lemma =>
 refine region_dk 31 [(134, 0), (135, 1), (136, 2), (137, 3), (138, 4), (139, 5), (140, 6), (141, 7), (142, 8), (143, 9), (144, 10), (145, 11), (146, 12), (147, 13), (148, 14), (149, 15), (150, 16), (151, 17), (152, 18), (153, 19), (154, 20), (155, 21), (156, 22), (157, 23), (158, 24), (159, 25), (160, 26), (161, 27), (162, 28), (163, 29), (164, 30)] [[], [], [], [], [2, 3], [2, 3, 4], [], [], [7], [6, 7, 8], [6, 7, 8, 9], [6, 7, 8, 9, 10], [6, 7, 8, 9, 10, 11], [2, 3, 4, 5, 6, 7, 8, 9, 10, 11, 12], [2, 3, 4, 5, 6, 7, 8, 9, 10, 11, 12, 13], [], [], [15, 16], [15, 16, 17], [], [], [20], [19, 20, 21], [19, 20, 21, 22], [19, 20, 21, 22, 23], [19, 20, 21, 22, 23, 24], [19, 20, 21, 22, 23, 24, 25], [15, 16, 17, 18, 19, 20, 21, 22, 23, 24, 25, 26], [2, 3, 4, 5, 6, 7, 8, 9, 10, 11, 12, 13, 14, 15, 16, 17, 18, 19, 20, 21, 22, 23, 24, 25, 26, 27], [0, 1, 2, 3, 4, 5, 6, 7, 8, 9, 10, 11, 12, 13, 14, 15, 16, 17, 18, 19, 20, 21, 22, 23, 24, 25, 26, 27, 28], [0, 1, 2, 3, 4, 5, 6, 7, 8, 9, 10, 11, 12, 13, 14, 15, 16, 17, 18, 19, 20, 21, 22, 23, 24, 25, 26, 27, 28, 29], [0, 1, 2, 3, 4, 5, 6, 7, 8, 9, 10, 11, 12, 13, 14, 15, 16, 17, 18, 19, 20, 21, 22, 23, 24, 25, 26, 27, 28, 29, 30]] (rel [is (.slice (some ⟨ga19, 0, none⟩) (3) (ca19)),
   is (.int .i64 2),
   is (.slice (some ⟨bk3, 0, none⟩) (3) (3)),
   is (.int .i64 2),
   is (.pointer (some ⟨bk3, 2, none⟩)),
   is (.int .i64 qq2),
   is (.int .i64 2),
   is (.pointer (some ⟨bk0, 22, none⟩)),
   is (.pointer (some ⟨bk0, 28, none⟩)),
   is (.pointer (some ⟨bk0, 30, none⟩)),
   is (.int .u8 ((sv 30))),
   is (.int .i64 ((sv 30))),
   is (.int .i64 (((sv 30) % 2))),
   is (.int .i64 (qq2 - ((sv 30) % 2))),
   is (.int .i64 (max 0 (qq2 - ((sv 30) % 2)))),
   is (.slice (some ⟨bk3, 0, none⟩) (3) (3)),
   is (.int .i64 2),
   is (.pointer (some ⟨bk3, 2, none⟩)),
   is (.int .i64 qq2),
   is (.int .i64 2),
   is (.pointer (some ⟨bk0, 22, none⟩)),
   is (.pointer (some ⟨bk0, 28, none⟩)),
   is (.pointer (some ⟨bk0, 30, none⟩)),
   is (.int .u8 ((sv 30))),
   is (.int .i64 ((sv 30))),
   is (.int .i64 (((sv 30) / 2))),
   is (.int .i64 ((((sv 30) / 2) % 2))),
   is (.int .i64 (qq2 + (((sv 30) / 2) % 2))),
   is (.agg #[.int .i64 nl2, .int .i64 nh2]),
   is (.pointer (some ⟨ga19, 6, none⟩)),
   is (.pointer (some ⟨ga19, 7, none⟩))])
  ⟨is_k, is_k, is_k, is_k, is_k, is_k, is_k, is_k, is_k, is_k, is_k, is_k, is_k, is_k, is_k, is_k, is_k, is_k, is_k, is_k, is_k, is_k, is_k, is_k, is_k, is_k, is_k, is_k, is_k, is_k, is_k, trivial⟩
  ⟨fun f s W c d g j l a => opv rfl rfl (by simp [go_sem, a.e 8 k78_8]) rfl,
  fun f s W c d g j l a => opv rfl rfl (by simp [go_sem, a.e 15 k78_15]) rfl,
  fun f s W c d g j l a => opv rfl rfl (by simp [go_sem, a.e 9 k78_9]) rfl,
  fun f s W c d g j l a => opv rfl rfl (by simp [go_sem, a.e 15 k78_15]) rfl,
  fun f s W c d g j l a => opv rfl rfl (by simp [go_sem, a.e 136 (d 2 rfl), a.e 137 (d 3 rfl)]) rfl,
  fun f s W c d g j l a => opv rfl rfl (by simp [go_sem, a.e 138 (d 4 rfl), cb b78_3 c 2]) rfl,
  fun f s W c d g j l a => opv rfl rfl (by simp [go_sem, a.e 15 k78_15]) rfl,
  fun f s W c d g j l a => opv rfl rfl (by simp [go_sem, a.e 2 k78_2]) rfl,
  fun f s W c d g j l a => opv rfl rfl (by simp [go_sem, a.e 141 (d 7 rfl)]) rfl,
  fun f s W c d g j l a => opv rfl rfl (by simp [go_sem, a.e 142 (d 8 rfl), a.e 140 (d 6 rfl)]) rfl,
  fun f s W c d g j l a => opv rfl rfl (by simp [go_sem, a.e 143 (d 9 rfl), cb b78_0 c 30]) rfl,
  fun f s W c d g j l a => by have cv_ := IntWalk.i64_in (sv 30) (by omega); exact opv rfl rfl (by simp [go_sem, a.e 144 (d 10 rfl), cv_]) rfl,
  fun f s W c d g j l a => by have qu_ : ((sv 30)).tmod 2 = ((sv 30) % 2) := Int.tmod_eq_emod_of_nonneg (by omega); have qw_ := IntWalk.i64_in ((sv 30) % 2) (by omega); exact opv rfl rfl (by simp [go_sem, a.e 145 (d 11 rfl), qu_, qw_]) rfl,
  fun f s W c d g j l a => opv rfl rfl (by simp [go_sem, a.e 139 (d 5 rfl), a.e 146 (d 12 rfl), IntWalk.i64_in (qq2 - ((sv 30) % 2)) (by omega)]) rfl,
  fun f s W c d g j l a => opv rfl rfl (by simp [go_sem, a.e 147 (d 13 rfl)]) rfl,
  fun f s W c d g j l a => opv rfl rfl (by simp [go_sem, a.e 9 k78_9]) rfl,
  fun f s W c d g j l a => opv rfl rfl (by simp [go_sem, a.e 15 k78_15]) rfl,
  fun f s W c d g j l a => opv rfl rfl (by simp [go_sem, a.e 149 (d 15 rfl), a.e 150 (d 16 rfl)]) rfl,
  fun f s W c d g j l a => opv rfl rfl (by simp [go_sem, a.e 151 (d 17 rfl), cb b78_3 c 2]) rfl,
  fun f s W c d g j l a => opv rfl rfl (by simp [go_sem, a.e 15 k78_15]) rfl,
  fun f s W c d g j l a => opv rfl rfl (by simp [go_sem, a.e 2 k78_2]) rfl,
  fun f s W c d g j l a => opv rfl rfl (by simp [go_sem, a.e 154 (d 20 rfl)]) rfl,
  fun f s W c d g j l a => opv rfl rfl (by simp [go_sem, a.e 155 (d 21 rfl), a.e 153 (d 19 rfl)]) rfl,
  fun f s W c d g j l a => opv rfl rfl (by simp [go_sem, a.e 156 (d 22 rfl), cb b78_0 c 30]) rfl,
  fun f s W c d g j l a => by have cv_ := IntWalk.i64_in (sv 30) (by omega); exact opv rfl rfl (by simp [go_sem, a.e 157 (d 23 rfl), cv_]) rfl,
  fun f s W c d g j l a => by have qu_ : ((sv 30)).tdiv 2 = ((sv 30) / 2) := Int.tdiv_eq_ediv_of_nonneg (by omega); have qw_ := IntWalk.i64_in ((sv 30) / 2) (by omega); exact opv rfl rfl (by simp [go_sem, a.e 158 (d 24 rfl), qu_, qw_]) rfl,
  fun f s W c d g j l a => by have qu_ : (((sv 30) / 2)).tmod 2 = (((sv 30) / 2) % 2) := Int.tmod_eq_emod_of_nonneg (by omega); have qw_ := IntWalk.i64_in (((sv 30) / 2) % 2) (by omega); exact opv rfl rfl (by simp [go_sem, a.e 159 (d 25 rfl), qu_, qw_]) rfl,
  fun f s W c d g j l a => opv rfl rfl (by simp [go_sem, a.e 152 (d 18 rfl), a.e 160 (d 26 rfl), IntWalk.i64_in (qq2 + (((sv 30) / 2) % 2)) (by omega)]) rfl,
  fun f s W c d g j l a => opDo_call rfl rfl (by simp [go_sem, a.e 148 (d 14 rfl), a.e 161 (d 27 rfl)]) (pubSpan_any (max 0 (qq2 - ((sv 30) % 2))) (qq2 + (((sv 30) / 2) % 2)) W) ((fun e W' h => by have h1 := h.1; rw [hnl2.out, hnh2.out] at h1; exact ⟨_, h1, h.2, rfl⟩)),
  fun f s W c d g j l a => opv rfl rfl (by simp [go_sem, a.e 134 (d 0 rfl), a.e 135 (d 1 rfl)]) rfl,
  fun f s W c d g j l a => opv rfl rfl (by simp [go_sem, a.e 163 (d 29 rfl)]) rfl, trivial⟩ ?_
 intro f79 s79 W79 hB79 g79 hg79
 have fB79 := hB79.f fB78
 have z79 := hB79.below.size
 have b79_0 := hB79.b b78_0
 have b79_1 := hB79.b b78_1
 have b79_2 := hB79.b b78_2
 have b79_3 := hB79.b b78_3
 have b79_4 := hB79.b b78_4
 have b79_5 := hB79.b b78_5
 have b79_6 := hB79.b b78_6
 have q67' := (q66'.below hB79.below)
 have k79_2 := kt hg79 2 k78_2
 have k79_4 := kt hg79 4 k78_4
 have k79_5 := kt hg79 5 k78_5
 have k79_6 := kt hg79 6 k78_6
 have k79_7 := kt hg79 7 k78_7
 have k79_9 := kt hg79 9 k78_9
 have k79_10 := kt hg79 10 k78_10
 have k79_8 := kt hg79 8 k78_8
 have k79_15 := kt hg79 15 k78_15
 have k79_131 := kt hg79 131 k78_131
 have k79_162 := kt hg79 162 (hB79.is 28)
 have k79_164 := kt hg79 164 (hB79.is 30)
 obtain ⟨W80, st80, ow80, ot80, z80, fB80⟩ := storeR_tail (ty := 33) (o := 7) (v := .agg #[.int .i64 nl2, .int .i64 nh2]) [.int .i64 al0, .int .i64 nl0, .int .i64 nh0, .int .i64 al1, .int .i64 nl1, .int .i64 nh1, .int .i64 al2, .int .i64 nl2, .int .i64 nh2] fB79 (Nat.le_refl _) (OwnN.row q67') (by kernel_rfl) (Nat.le_of_ble_eq_true rfl) rfl rfl rfl
 refine tail_skip (o := _) rfl ⟨rfl, rfl⟩ (st80 (fr_ev k79_164) (fr_ev k79_162)) ?_
 have b80_0 := ot80 _ _ (fun e => ownN_ne q67' b79_0 (by decide) _ rfl e.symm) b79_0
 have b80_1 := ot80 _ _ (fun e => ownN_ne q67' b79_1 (by decide) _ rfl e.symm) b79_1
 have b80_2 := ot80 _ _ (fun e => ownN_ne q67' b79_2 (by decide) _ rfl e.symm) b79_2
 have b80_3 := ot80 _ _ (fun e => ownN_ne q67' b79_3 (by decide) _ rfl e.symm) b79_3
 have b80_4 := ot80 _ _ (fun e => ownN_ne q67' b79_4 (by decide) _ rfl e.symm) b79_4
 have b80_5 := ot80 _ _ (fun e => ownN_ne q67' b79_5 (by decide) _ rfl e.symm) b79_5
 have b80_6 := ot80 _ _ (fun e => ownN_ne q67' b79_6 (by decide) _ rfl e.symm) b79_6
 have on80 : OwnN 72 3 w.heap.size 3 [.int .i64 al0, .int .i64 nl0, .int .i64 nh0, .int .i64 al1, .int .i64 nl1, .int .i64 nh1, .int .i64 al2, .int .i64 nl2, .int .i64 nh2] (some ⟨ga19, 0, none⟩) ca19 W80 := .inr ⟨_, rfl, ow80⟩
 refine wpOps_end ?_
 refine inBlock_normal ?_
 refine hK90 _ _ ?_
 as_aux_lemma =>
 refine region_dk 3 [(132, 0), (133, 1), (15, 2)] [[], [0], [0, 1]] (rel [is (.int .i64 2),
   is (.int .i64 3),
   is (.int .i64 3)])
  ⟨is_k, is_k, is_k, trivial⟩
  ⟨fun f s W c d g j l a => opv rfl rfl (by simp [go_sem, a.e 15 ((j 2 15 rfl rfl).trans k79_15)]) rfl,
  fun f s W c d g j l a => opv rfl rfl (by simp [go_sem, a.e 132 (d 0 rfl), IntWalk.i64_in (3) (by omega)]) rfl,
  fun f s W c d g j l a => opv rfl rfl (by simp [go_sem, a.e 133 (d 1 rfl)]) rfl, trivial⟩ ?_
 clear b78_0 b78_1 b78_2 b78_3 b78_4 b78_5 b78_6 b79_0 b79_1 b79_2 b79_3 b79_4 b79_5 b79_6 fB78 fB79 hB79 hK90 hg79 k78_10 k78_131 k78_15 k78_2 k78_4 k78_5 k78_6 k78_7 k78_8 k78_9 k79_15 ot80 st80
 intro f81 s81 W81 hB81 g81 hg81
 have fB81 := hB81.f fB80
 have z81 := hB81.below.size
 have b81_0 := hB81.b b80_0
 have b81_1 := hB81.b b80_1
 have b81_2 := hB81.b b80_2
 have b81_3 := hB81.b b80_3
 have b81_4 := hB81.b b80_4
 have b81_5 := hB81.b b80_5
 have b81_6 := hB81.b b80_6
 have q68' := (on80.below hB81.below)
 refine wpOps_end ?_
 have k81_2 := kt hg81 2 k79_2
 have k81_4 := kt hg81 4 k79_4
 have k81_5 := kt hg81 5 k79_5
 have k81_6 := kt hg81 6 k79_6
 have k81_7 := kt hg81 7 k79_7
 have k81_9 := kt hg81 9 k79_9
 have k81_10 := kt hg81 10 k79_10
 have k81_8 := kt hg81 8 k79_8
 have k81_131 := kt hg81 131 k79_131
 have k81_162 := kt hg81 162 k79_162
 have k81_164 := kt hg81 164 k79_164
 have k81_15 := kt hg81 15 (hB81.is 2)
 refine then_normal ?_
 rw [rounds_succ]
 clear b80_0 b80_1 b80_2 b80_3 b80_4 b80_5 b80_6 fB80 hB81 hg81 k79_10 k79_131 k79_162 k79_164 k79_2 k79_4 k79_5 k79_6 k79_7 k79_8 k79_9 k81_131
 refine wp_seq_k fun K91 hK91 => ?_
 clear hK91
 refine wp_seq_k fun K92 hK92 => ?_
 as_aux_lemma =>
 refine region_dk 2 [(130, 0), (131, 1)] [[], [0]] (rel [is (.int .i64 3),
   is (.bool false)])
  ⟨is_k, is_k, trivial⟩
  ⟨fun f s W c d g j l a => opv rfl rfl (by simp [go_sem, a.e 15 k81_15]) rfl,
  fun f s W c d g j l a => opv rfl rfl (by simp [go_sem, a.e 130 (d 0 rfl)]) rfl, trivial⟩ ?_
 intro f82 s82 W82 hB82 g82 hg82
 have fB82 := hB82.f fB81
 have z82 := hB82.below.size
 have b82_0 := hB82.b b81_0
 have b82_1 := hB82.b b81_1
 have b82_2 := hB82.b b81_2
 have b82_3 := hB82.b b81_3
 have b82_4 := hB82.b b81_4
 have b82_5 := hB82.b b81_5
 have b82_6 := hB82.b b81_6
 have q69' := (q68'.below hB82.below)
 refine hK92 _ _ ?_
 have k82_2 := kt hg82 2 k81_2
 have k82_4 := kt hg82 4 k81_4
 have k82_5 := kt hg82 5 k81_5
 have k82_6 := kt hg82 6 k81_6
 have k82_7 := kt hg82 7 k81_7
 have k82_9 := kt hg82 9 k81_9
 have k82_10 := kt hg82 10 k81_10
 have k82_8 := kt hg82 8 k81_8
 have k82_162 := kt hg82 162 k81_162
 have k82_164 := kt hg82 164 k81_164
 have k82_15 := kt hg82 15 k81_15
 have k82_131 := kt hg82 131 (hB82.is 1)
 clear b81_0 b81_1 b81_2 b81_3 b81_4 b81_5 b81_6 fB81 hB82 hK92 hg82 k81_10 k81_15 k81_162 k81_164 k81_2 k81_4 k81_5 k81_6 k81_7 k81_8 k81_9 k82_15 k82_162 k82_164 k82_2 k82_5 k82_6 k82_9
 refine wp_cond_false ((fr_eval rfl).trans k82_131) ?_
 clear k82_131
 refine wp_exit ?_
 refine then_exit ?_
 refine then_exit ?_
 refine inBlock_at ?_
 refine hK77 _ _ ?_
 clear hK77
 refine wp_seq_k fun K94 hK94 => ?_
 as_aux_lemma =>
 refine region_dk 3 [(165, 0), (166, 1), (167, 2), (5, 4), (6, 5)] [[], [], [], [0], [0, 1, 3], [0, 1, 2, 3, 4]] (rel [is (.agg #[.int .i64 2900, .int .i64 plo, .int .i64 phi, .int .i64 4]),
   is (.slice (some ⟨ga19, 0, none⟩) (3) (ca19)),
   is (.slice (some ⟨bk4, 0, none⟩) (2) (2))])
  ⟨is_k, is_k, is_k, trivial⟩
  ⟨fun f s W c d g j l a => opl rfl rfl rfl (a.v 7 k82_7) (blk_below b82_2 c) Try.underlying35 rfl (by kernel_rfl) rfl,
  fun f s W c d g j l a => opv rfl rfl (by simp [go_sem, a.e 8 k82_8]) rfl,
  fun f s W c d g j l a => opv rfl rfl (by simp [go_sem, a.e 10 k82_10]) rfl, trivial⟩ ?_
 clear k82_10 k82_7 k82_8
 intro f83 s83 W83 hB83 g83 hg83
 have fB83 := hB83.f fB82
 have z83 := hB83.below.size
 have b83_0 := hB83.b b82_0
 have b83_1 := hB83.b b82_1
 have b83_2 := hB83.b b82_2
 have b83_3 := hB83.b b82_3
 have b83_4 := hB83.b b82_4
 have b83_5 := hB83.b b82_5
 have b83_6 := hB83.b b82_6
 have q70' := (q69'.below hB83.below)
 have k83_4 := kt hg83 4 k82_4
 have k83_165 := kt hg83 165 (hB83.is 0)
 have k83_166 := kt hg83 166 (hB83.is 1)
 have k83_167 := kt hg83 167 (hB83.is 2)
 obtain ⟨W84, hW84⟩ : ∃ W', W' = W83.setRow bk1 #[.int .i64 2900, .int .i64 plo, .int .i64 phi, .int .i64 4] := ⟨_, rfl⟩
 refine tail_skip (o := _) rfl ⟨rfl, rfl⟩ (run_seg hW84 (fr_ev k83_4) (fr_ev k83_165) b83_1 rfl rfl rfl rfl) ?_
 obtain ⟨fB84, nb84, ot84, z84⟩ := seg_facts hW84 fB83 b83_1 (by omega)
 clear hW84
 have b84_0 := ot84 _ _ (by omega) b83_0
 have b84_2 := ot84 _ _ (by omega) b83_2
 have b84_3 := ot84 _ _ (by omega) b83_3
 have b84_4 := ot84 _ _ (by omega) b83_4
 have b84_5 := ot84 _ _ (by omega) b83_5
 have b84_6 := ot84 _ _ (by omega) b83_6
 have q71' := q70'.other ot84 (ownN_ne q70' b83_1) z84
 refine tail_value (o := _) rfl rfl rfl (v := .slice (some ⟨ga19, 0, none⟩) (3) (ca19)) (by simp [go_sem, frv 168 k83_166]) ?_
 generalize hg85 : upd g83 5 (.slice (some ⟨ga19, 0, none⟩) (3) (ca19)) = g85
 have k85_4 := ku hg85 4 k83_4
 have k85_167 := ku hg85 167 k83_167
 have k85_5 := kt hg85 5 (upd_same _ _ _)
 refine tail_value (o := _) rfl rfl rfl (v := .slice (some ⟨bk4, 0, none⟩) (2) (2)) (by simp [go_sem, frv 168 k85_167]) ?_
 generalize hg86 : upd g85 6 (.slice (some ⟨bk4, 0, none⟩) (2) (2)) = g86
 have k86_4 := ku hg86 4 k85_4
 have k86_5 := ku hg86 5 k85_5
 have k86_6 := kt hg86 6 (upd_same _ _ _)
 refine wpOps_end ?_
 refine hK94 _ _ ?_
 clear b82_0 b82_1 b82_2 b82_3 b82_4 b82_5 b82_6 b83_0 b83_1 b83_2 b83_3 b83_4 b83_5 b83_6 b84_0 b84_2 b84_3 fB82 fB83 hB83 hK94 hg83 hg85 hg86 k82_4 k83_165 k83_166 k83_167 k83_4 k85_167 k85_4 k85_5 ot84
 refine wp_ret ?_
 refine leave_gen (v := .tuple #[.agg #[.int .i64 2900, .int .i64 plo, .int .i64 phi, .int .i64 4], .slice (some ⟨ga19, 0, none⟩) (3) (ca19), .slice (some ⟨bk4, 0, none⟩) (2) (2)]) (.inr rfl) (by simp [results, Try.results8, go_sem, frv 168 k86_4, cl nb84 0, cl nb84 1, cl nb84 2, cl nb84 3, frv 168 k86_5, frv 168 k86_6]) ?_
 exact ⟨_, _, rfl, (OwnN.row q71').ordS (fun i hi => by match i, hi with | 0, _ => exact ⟨rfl, rfl, rfl⟩ | 1, _ => exact ⟨rfl, rfl, rfl⟩ | 2, _ => exact ⟨rfl, rfl, rfl⟩), plan_blk b84_6 b84_4 b84_5, fB84⟩
set_option maxRecDepth 100000 in
set_option maxHeartbeats 40000000 in
theorem pubRun_any_c8 (sv : Nat → Int) (ay : Option Addr) (cy : Nat) (al0 al1 al2 m1 m2 r0 r1 ma1 ma2 lf0 lf1 qq1 qq2 plo0 phi0 plo phi nl0 nl1 nl2 nh0 nh1 nh2 : Int) (w : World) (hY : Ii w ay 3 cy [al0, al1, al2]) (gsv : ∀ k, 0 ≤ sv k ∧ sv k ≤ 255) (gal0 : 1 ≤ al0 ∧ al0 ≤ 1000) (gal1 : 1 ≤ al1 ∧ al1 ≤ 1000) (gal2 : 1 ≤ al2 ∧ al2 ≤ 1000) (hm2 : HidE (1 + ((sv 22) % 2)) m2) (hr0 : HidE (1 + ((sv 23) % 9)) r0) (hm1 : HidE (1 + ((sv 25) % 2)) m1) (hr1 : HidE (1 + ((sv 26) % 9)) r1) (hma1 : HidE (m1 * al1) ma1) (hma2 : HidE (m2 * al2) ma2) (gma1 : 0 ≤ ma1 ∧ ma1 ≤ 2000) (gma2 : 0 ≤ ma2 ∧ ma2 ≤ 2000) (hlf0 : HidE (2900 - ma2) lf0) (hlf1 : HidE ((2900 - al0) - ma1) lf1) (hqq1 : HidE (m1 * r1) qq1) (hqq2 : HidE (m2 * r0) qq2) (gqq1 : 0 ≤ qq1 ∧ qq1 ≤ 20) (gqq2 : 0 ≤ qq2 ∧ qq2 ≤ 20) (gm1 : 1 ≤ m1 ∧ m1 ≤ 2) (gm2 : 1 ≤ m2 ∧ m2 ≤ 2) (gr0 : 1 ≤ r0 ∧ r0 ≤ 9) (gr1 : 1 ≤ r1 ∧ r1 ≤ 9) (glf0 : 0 ≤ lf0 ∧ lf0 ≤ 2900) (glf1 : -1000 ≤ lf1 ∧ lf1 ≤ 2900) (gp0 : 0 ≤ plo0 ∧ plo0 ≤ phi0 ∧ phi0 ≤ 3000) (gp1 : 0 ≤ plo ∧ plo ≤ phi ∧ phi ≤ 3000) (gn0 : 0 ≤ nl0 ∧ nl0 ≤ nh0 ∧ nh0 ≤ 30) (gn1 : 0 ≤ nl1 ∧ nl1 ≤ nh1 ∧ nh1 ≤ 30) (gn2 : 0 ≤ nl2 ∧ nl2 ≤ nh2 ∧ nh2 ≤ 30) (hplo0 : HidE (max 0 (min 3000 lf0)) plo0) (hphi0 : HidE (max 0 (lf0 + ((sv 21) % 20))) phi0) (hplo : HidE (max 0 (min plo0 lf1)) plo) (hphi : HidE (max phi0 (lf1 + ((sv 21) % 20))) phi) (hnl0 : HidE (max 0 (r1 - ((sv 28) % 2))) nl0) (hnh0 : HidE (r1 + (((sv 28) / 2) % 2)) nh0) (hnl1 : HidE (max 0 (qq1 - ((sv 29) % 2))) nl1) (hnh1 : HidE (qq1 + (((sv 29) / 2) % 2)) nh1) (hnl2 : HidE (max 0 (qq2 - ((sv 30) % 2))) nl2) (hnh2 : HidE (qq2 + (((sv 30) / 2) % 2)) nh2) (g_ : Nat → Value) (W_ : World) (bk0 : Nat) (bk1 : Nat) (bk2 : Nat) (bk3 : Nat) (bk4 : Nat) (ga14 : Nat) (ca14 : Nat) (bk5 : Nat) (ga19 : Nat) (ca19 : Nat) (bk6 : Nat) (bk7 : Nat)  (k_1 : g_ 1 = .slice (ay) (3) (cy)) (k_2 : g_ 2 = .pointer (some ⟨bk0, 0, none⟩)) (k_4 : g_ 4 = .pointer (some ⟨bk1, 0, none⟩)) (k_5 : g_ 5 = .slice (none) (0) (0)) (k_6 : g_ 6 = .slice (none) (0) (0)) (k_7 : g_ 7 = .pointer (some ⟨bk2, 0, none⟩)) (k_9 : g_ 9 = .slice (some ⟨bk3, 0, none⟩) (3) (3)) (k_10 : g_ 10 = .slice (some ⟨bk4, 0, none⟩) (2) (2)) (k_8 : g_ 8 = .slice (some ⟨ga19, 0, none⟩) (3) (ca19)) (fB_ : Below w.heap.size w W_) (bl_0 : W_.heap[bk0]? = some (.cells #[.int .u8 ((sv 0)), .int .u8 ((sv 1)), .int .u8 ((sv 2)), .int .u8 ((sv 3)), .int .u8 ((sv 4)), .int .u8 ((sv 5)), .int .u8 ((sv 6)), .int .u8 ((sv 7)), .int .u8 ((sv 8)), .int .u8 ((sv 9)), .int .u8 ((sv 10)), .int .u8 ((sv 11)), .int .u8 ((sv 12)), .int .u8 ((sv 13)), .int .u8 ((sv 14)), .int .u8 ((sv 15)), .int .u8 ((sv 16)), .int .u8 ((sv 17)), .int .u8 ((sv 18)), .int .u8 ((sv 19)), .int .u8 ((sv 20)), .int .u8 ((sv 21)), .int .u8 ((sv 22)), .int .u8 ((sv 23)), .int .u8 ((sv 24)), .int .u8 ((sv 25)), .int .u8 ((sv 26)), .int .u8 ((sv 27)), .int .u8 ((sv 28)), .int .u8 ((sv 29)), .int .u8 ((sv 30))] 27 (0, 0))) (bl_1 : W_.heap[bk1]? = some (.cells #[.int .i64 0, .int .i64 0, .int .i64 0, .int .i64 0] 35 (0, 0))) (bl_2 : W_.heap[bk2]? = some (.cells #[.int .i64 2900, .int .i64 3000, .int .i64 0, .int .i64 4] 35 (0, 0))) (bl_3 : W_.heap[bk3]? = some (.cells #[.int .i64 0, .int .i64 0, .int .i64 0] 3 (0, 0))) (bl_4 : W_.heap[bk6]? = some (.cells #[.int .i64 0, .int .i64 0, .int .i64 m2] 3 (0, 0))) (bl_5 : W_.heap[bk7]? = some (.cells #[.int .i64 1, .int .i64 m1, .int .i64 0] 3 (0, 0))) (bl_6 : W_.heap[bk4]? = some (.cells #[.slice (some ⟨bk6, 0, none⟩) (3) (3), .int .i64 r0, .slice (some ⟨bk7, 0, none⟩) (3) (3), .int .i64 r1] 70 (0, 0))) (ft_0 : OwnN 72 3 w.heap.size 3 [.int .i64 al0, .int .i64 0, .int .i64 0, .int .i64 al1, .int .i64 0, .int .i64 0, .int .i64 al2, .int .i64 0, .int .i64 0] (some ⟨ga19, 0, none⟩) ca19 W_) (lw_bk0 : w.heap.size ≤ bk0) (lw_bk1 : w.heap.size ≤ bk1) (lw_bk2 : w.heap.size ≤ bk2) (lw_bk3 : w.heap.size ≤ bk3) (lw_bk6 : w.heap.size ≤ bk6) (lw_bk7 : w.heap.size ≤ bk7) (lw_bk4 : w.heap.size ≤ bk4) (ne_0_1 : bk0 ≠ bk1) (ne_0_2 : bk0 ≠ bk2) (ne_1_2 : bk1 ≠ bk2) (ne_0_3 : bk0 ≠ bk3) (ne_1_3 : bk1 ≠ bk3) (ne_2_3 : bk2 ≠ bk3) (ne_0_4 : bk0 ≠ bk6) (ne_1_4 : bk1 ≠ bk6) (ne_2_4 : bk2 ≠ bk6) (ne_3_4 : bk3 ≠ bk6) (ne_0_5 : bk0 ≠ bk7) (ne_1_5 : bk1 ≠ bk7) (ne_2_5 : bk2 ≠ bk7) (ne_3_5 : bk3 ≠ bk7) (ne_4_5 : bk6 ≠ bk7) (ne_0_6 : bk0 ≠ bk4) (ne_1_6 : bk1 ≠ bk4) (ne_2_6 : bk2 ≠ bk4) (ne_3_6 : bk3 ≠ bk4) (ne_4_6 : bk6 ≠ bk4) (ne_5_6 : bk7 ≠ bk4) :
  (tailC 5 (bodyC Try.f8)).wp Try.prog (bodyPost Try.prog Try.f8 (fun e w' => ∃ v2 v3, e = .returned (.tuple #[.agg #[.int .i64 2900, .int .i64 plo, .int .i64 phi, .int .i64 4], v2, v3]) ∧ IsOrdS 35 3 (osR al0 al1 al2 nl0 nl1 nl2 nh0 nh1 nh2) v2 w' ∧ IsPlanS 35 2 (xsR m1 m2 r0 r1) v3 w' ∧ Below w.heap.size w w')) (fr 168 g_) W_ := by
 obtain ⟨by_, oy_, hY_⟩ := hY.open
 have gs21 := gsv 21
 have gs22 := gsv 22
 have gs23 := gsv 23
 have gs25 := gsv 25
 have gs26 := gsv 26
 have gs28 := gsv 28
 have gs29 := gsv 29
 have gs30 := gsv 30
 have lt_bk0 := lt_of_blk bl_0
 have lt_bk1 := lt_of_blk bl_1
 have lt_bk2 := lt_of_blk bl_2
 have lt_bk3 := lt_of_blk bl_3
 have lt_bk6 := lt_of_blk bl_4
 have lt_bk7 := lt_of_blk bl_5
 have lt_bk4 := lt_of_blk bl_6
 refine wp_seq_k fun K22 hK22 => ?_
 refine wp_seq_k fun K23 hK23 => ?_
 as_aux_lemma =>
 refine region_dk 1 [(12, 0)] [[]] (rel [is (.int .i64 0)])
  ⟨is_k, trivial⟩
  ⟨fun f s W c d g i j a => opv rfl rfl (by simp [go_sem]) rfl, trivial⟩ ?_
 intro f23 s23 W23 hB23 g23 hg23
 have fB23 := hB23.f fB_
 have z23 := hB23.below.size
 have b23_0 := hB23.b bl_0
 have b23_1 := hB23.b bl_1
 have b23_2 := hB23.b bl_2
 have b23_3 := hB23.b bl_3
 have b23_4 := hB23.b bl_4
 have b23_5 := hB23.b bl_5
 have b23_6 := hB23.b bl_6
 have q13' := (ft_0.below hB23.below)
 refine hK23 _ _ ?_
 have k23_1 := kt hg23 1 k_1
 have k23_2 := kt hg23 2 k_2
 have k23_4 := kt hg23 4 k_4
 have k23_5 := kt hg23 5 k_5
 have k23_6 := kt hg23 6 k_6
 have k23_7 := kt hg23 7 k_7
 have k23_9 := kt hg23 9 k_9
 have k23_10 := kt hg23 10 k_10
 have k23_8 := kt hg23 8 k_8
 have k23_12 := kt hg23 12 (hB23.is 0)
 clear hB23 hK23 hg23
 refine wp_block ?_
 refine wp_loop_rounds 3 ?_
 rw [rounds_succ]
 refine wp_seq_k fun K24 hK24 => ?_
 refine wp_seq_k fun K25 hK25 => ?_
 as_aux_lemma =>
 refine region_dk 4 [(65, 0), (66, 1), (67, 2), (68, 3)] [[], [], [1], [0, 1, 2]] (rel [is (.int .i64 0),
   is (.slice (some ⟨bk4, 0, none⟩) (2) (2)),
   is (.int .i64 2),
   is (.bool true)])
  ⟨is_k, is_k, is_k, is_k, trivial⟩
  ⟨fun f s W c d g i j a => opv rfl rfl (by simp [go_sem, a.e 12 k23_12]) rfl,
  fun f s W c d g i j a => opv rfl rfl (by simp [go_sem, a.e 10 k23_10]) rfl,
  fun f s W c d g i j a => opv rfl rfl (by simp [go_sem, a.e 66 (d 1 rfl)]) rfl,
  fun f s W c d g i j a => opv rfl rfl (by simp [go_sem, a.e 65 (d 0 rfl), a.e 67 (d 2 rfl)]) rfl, trivial⟩ ?_
 intro f24 s24 W24 hB24 g24 hg24
 have fB24 := hB24.f fB23
 have z24 := hB24.below.size
 have b24_0 := hB24.b b23_0
 have b24_1 := hB24.b b23_1
 have b24_2 := hB24.b b23_2
 have b24_3 := hB24.b b23_3
 have b24_4 := hB24.b b23_4
 have b24_5 := hB24.b b23_5
 have b24_6 := hB24.b b23_6
 have q14' := (q13'.below hB24.below)
 refine hK25 _ _ ?_
 have k24_1 := kt hg24 1 k23_1
 have k24_2 := kt hg24 2 k23_2
 have k24_4 := kt hg24 4 k23_4
 have k24_5 := kt hg24 5 k23_5
 have k24_6 := kt hg24 6 k23_6
 have k24_7 := kt hg24 7 k23_7
 have k24_9 := kt hg24 9 k23_9
 have k24_10 := kt hg24 10 k23_10
 have k24_8 := kt hg24 8 k23_8
 have k24_12 := kt hg24 12 k23_12
 have k24_68 := kt hg24 68 (hB24.is 3)
 clear b23_0 b23_1 b23_2 b23_3 b23_4 b23_5 b23_6 fB23 hB24 hK25 hg24 k23_1 k23_10 k23_12 k23_2 k23_4 k23_5 k23_6 k23_7 k23_8 k23_9
 refine wp_cond_true ((fr_eval rfl).trans k24_68) ?_
 refine wp_skip ?_
 refine hK24 _ _ ?_
 clear hK24
 refine wp_seq_k fun K27 hK27 => ?_
 refine wp_block ?_
 refine wp_seq_k fun K28 hK28 => ?_
 as_aux_lemma =>
 refine region_dk 3 [(71, 0), (72, 1), (13, 2)] [[], [0], [0, 1]] (rel [is (.pointer (some ⟨bk2, 0, none⟩)),
   is (.int .i64 2900),
   is (.int .i64 2900)])
  ⟨is_k, is_k, is_k, trivial⟩
  ⟨fun f s W c d g i j a => opv rfl rfl (by simp [go_sem, a.e 7 k24_7]) rfl,
  fun f s W c d g i j a => opv rfl rfl (by simp [go_sem, a.e 71 (d 0 rfl), cb b24_2 c 0]) rfl,
  fun f s W c d g i j a => opv rfl rfl (by simp [go_sem, a.e 72 (d 1 rfl)]) rfl, trivial⟩ ?_
 intro f25 s25 W25 hB25 g25 hg25
 have fB25 := hB25.f fB24
 have z25 := hB25.below.size
 have b25_0 := hB25.b b24_0
 have b25_1 := hB25.b b24_1
 have b25_2 := hB25.b b24_2
 have b25_3 := hB25.b b24_3
 have b25_4 := hB25.b b24_4
 have b25_5 := hB25.b b24_5
 have b25_6 := hB25.b b24_6
 have q15' := (q14'.below hB25.below)
 refine hK28 _ _ ?_
 have k25_1 := kt hg25 1 k24_1
 have k25_2 := kt hg25 2 k24_2
 have k25_4 := kt hg25 4 k24_4
 have k25_5 := kt hg25 5 k24_5
 have k25_6 := kt hg25 6 k24_6
 have k25_7 := kt hg25 7 k24_7
 have k25_9 := kt hg25 9 k24_9
 have k25_10 := kt hg25 10 k24_10
 have k25_8 := kt hg25 8 k24_8
 have k25_12 := kt hg25 12 k24_12
 have k25_68 := kt hg25 68 k24_68
 have k25_13 := kt hg25 13 (hB25.is 2)
 clear b24_0 b24_1 b24_2 b24_3 b24_4 b24_5 b24_6 fB24 hB25 hK28 hg25 k24_1 k24_10 k24_12 k24_2 k24_4 k24_5 k24_6 k24_68 k24_7 k24_8 k24_9
 refine wp_seq_k fun K29 hK29 => ?_
 refine wp_seq_k fun K30 hK30 => ?_
 as_aux_lemma =>
 refine region_dk 1 [(14, 0)] [[]] (rel [is (.int .i64 0)])
  ⟨is_k, trivial⟩
  ⟨fun f s W c d g i j a => opv rfl rfl (by simp [go_sem]) rfl, trivial⟩ ?_
 intro f26 s26 W26 hB26 g26 hg26
 have fB26 := hB26.f fB25
 have z26 := hB26.below.size
 have b26_0 := hB26.b b25_0
 have b26_1 := hB26.b b25_1
 have b26_2 := hB26.b b25_2
 have b26_3 := hB26.b b25_3
 have b26_4 := hB26.b b25_4
 have b26_5 := hB26.b b25_5
 have b26_6 := hB26.b b25_6
 have q16' := (q15'.below hB26.below)
 refine hK30 _ _ ?_
 have k26_1 := kt hg26 1 k25_1
 have k26_2 := kt hg26 2 k25_2
 have k26_4 := kt hg26 4 k25_4
 have k26_5 := kt hg26 5 k25_5
 have k26_6 := kt hg26 6 k25_6
 have k26_7 := kt hg26 7 k25_7
 have k26_9 := kt hg26 9 k25_9
 have k26_10 := kt hg26 10 k25_10
 have k26_8 := kt hg26 8 k25_8
 have k26_12 := kt hg26 12 k25_12
 have k26_68 := kt hg26 68 k25_68
 have k26_13 := kt hg26 13 k25_13
 have k26_14 := kt hg26 14 (hB26.is 0)
 clear b25_0 b25_1 b25_2 b25_3 b25_4 b25_5 b25_6 fB25 hB26 hK30 hg26 k25_1 k25_10 k25_12 k25_13 k25_2 k25_4 k25_5 k25_6 k25_68 k25_7 k25_8 k25_9
 refine wp_block ?_
 refine wp_loop_rounds 4 ?_
 rw [rounds_succ]
 refine wp_seq_k fun K31 hK31 => ?_
 refine wp_seq_k fun K32 hK32 => ?_
 as_aux_lemma =>
 refine region_dk 2 [(73, 0), (74, 1)] [[], [0]] (rel [is (.int .i64 0),
   is (.bool true)])
  ⟨is_k, is_k, trivial⟩
  ⟨fun f s W c d g i j a => opv rfl rfl (by simp [go_sem, a.e 14 k26_14]) rfl,
  fun f s W c d g i j a => opv rfl rfl (by simp [go_sem, a.e 73 (d 0 rfl)]) rfl, trivial⟩ ?_
 intro f27 s27 W27 hB27 g27 hg27
 have fB27 := hB27.f fB26
 have z27 := hB27.below.size
 have b27_0 := hB27.b b26_0
 have b27_1 := hB27.b b26_1
 have b27_2 := hB27.b b26_2
 have b27_3 := hB27.b b26_3
 have b27_4 := hB27.b b26_4
 have b27_5 := hB27.b b26_5
 have b27_6 := hB27.b b26_6
 have q17' := (q16'.below hB27.below)
 refine hK32 _ _ ?_
 have k27_1 := kt hg27 1 k26_1
 have k27_2 := kt hg27 2 k26_2
 have k27_4 := kt hg27 4 k26_4
 have k27_5 := kt hg27 5 k26_5
 have k27_6 := kt hg27 6 k26_6
 have k27_7 := kt hg27 7 k26_7
 have k27_9 := kt hg27 9 k26_9
 have k27_10 := kt hg27 10 k26_10
 have k27_8 := kt hg27 8 k26_8
 have k27_12 := kt hg27 12 k26_12
 have k27_68 := kt hg27 68 k26_68
 have k27_13 := kt hg27 13 k26_13
 have k27_14 := kt hg27 14 k26_14
 have k27_74 := kt hg27 74 (hB27.is 1)
 clear b26_0 b26_1 b26_2 b26_3 b26_4 b26_5 b26_6 fB26 hB27 hK32 hg27 k26_1 k26_10 k26_12 k26_13 k26_14 k26_2 k26_4 k26_5 k26_6 k26_68 k26_7 k26_8 k26_9
 refine wp_cond_true ((fr_eval rfl).trans k27_74) ?_
 refine wp_skip ?_
 refine hK31 _ _ ?_
 clear hK31
 refine wp_seq_k fun K34 hK34 => ?_
 refine wp_block ?_
 refine wp_seq_k fun K35 hK35 => ?_
 as_aux_lemma =>
 refine region_dk 16 [(77, 0), (78, 1), (79, 2), (80, 3), (81, 4), (82, 5), (83, 6), (84, 7), (85, 8), (86, 9), (87, 10), (88, 11), (89, 12), (90, 13), (91, 14), (13, 15)] [[], [], [], [1, 2], [1, 2, 3], [1, 2, 3, 4], [], [1, 2, 3, 4, 5, 6], [1, 2, 3, 4, 5, 6, 7], [], [], [9, 10], [9, 10, 11], [1, 2, 3, 4, 5, 6, 7, 8, 9, 10, 11, 12], [0, 1, 2, 3, 4, 5, 6, 7, 8, 9, 10, 11, 12, 13], [0, 1, 2, 3, 4, 5, 6, 7, 8, 9, 10, 11, 12, 13, 14]] (rel [is (.int .i64 2900),
   is (.slice (some ⟨bk4, 0, none⟩) (2) (2)),
   is (.int .i64 0),
   is (.pointer (some ⟨bk4, 0, none⟩)),
   is (.pointer (some ⟨bk4, 0, none⟩)),
   is (.slice (some ⟨bk6, 0, none⟩) (3) (3)),
   is (.int .i64 0),
   is (.pointer (some ⟨bk6, 0, none⟩)),
   is (.int .i64 0),
   is (.slice (ay) (3) (cy)),
   is (.int .i64 0),
   is (.pointer (some ⟨by_, oy_ + 0, none⟩)),
   is (.int .i64 al0),
   is (.int .i64 0),
   is (.int .i64 2900),
   is (.int .i64 2900)])
  ⟨is_k, is_k, is_k, is_k, is_k, is_k, is_k, is_k, is_k, is_k, is_k, is_k, is_k, is_k, is_k, is_k, trivial⟩
  ⟨fun f s W c d g i j a => opv rfl rfl (by simp [go_sem, a.e 13 ((i 15 13 rfl rfl).trans k27_13)]) rfl,
  fun f s W c d g i j a => opv rfl rfl (by simp [go_sem, a.e 10 k27_10]) rfl,
  fun f s W c d g i j a => opv rfl rfl (by simp [go_sem, a.e 12 k27_12]) rfl,
  fun f s W c d g i j a => opv rfl rfl (by simp [go_sem, a.e 78 (d 1 rfl), a.e 79 (d 2 rfl)]) rfl,
  fun f s W c d g i j a => opv rfl rfl (by simp [go_sem, a.e 80 (d 3 rfl)]) rfl,
  fun f s W c d g i j a => opv rfl rfl (by simp [go_sem, a.e 81 (d 4 rfl), cb b27_6 c 0]) rfl,
  fun f s W c d g i j a => opv rfl rfl (by simp [go_sem, a.e 14 k27_14]) rfl,
  fun f s W c d g i j a => opv rfl rfl (by simp [go_sem, a.e 82 (d 5 rfl), a.e 83 (d 6 rfl)]) rfl,
  fun f s W c d g i j a => opv rfl rfl (by simp [go_sem, a.e 84 (d 7 rfl), cb b27_4 c 0]) rfl,
  fun f s W c d g i j a => opv rfl rfl (by simp [go_sem, a.e 1 k27_1]) rfl,
  fun f s W c d g i j a => opv rfl rfl (by simp [go_sem, a.e 14 k27_14]) rfl,
  fun f s W c d g i j a => by have hab := (hY_ (by decide)).1; exact opv rfl rfl (by simp [go_sem, a.e 86 (d 9 rfl), a.e 87 (d 10 rfl), hab]) rfl,
  fun f s W c d g i j a => by have l := below_trans fB27 c; have cu_ : W.cell? ⟨by_, oy_, none⟩ = some (.int .i64 al0) := (hY_ (by decide)).2 W l 0 (by decide); exact opv rfl rfl (by simp [go_sem, a.e 88 (d 11 rfl), cu_]) rfl,
  fun f s W c d g i j a => opv rfl rfl (by simp [go_sem, a.e 85 (d 8 rfl), a.e 89 (d 12 rfl), IntWalk.i64_in (0) (by omega)]) rfl,
  fun f s W c d g i j a => opv rfl rfl (by simp [go_sem, a.e 77 (d 0 rfl), a.e 90 (d 13 rfl), IntWalk.i64_in (2900) (by omega)]) rfl,
  fun f s W c d g i j a => opv rfl rfl (by simp [go_sem, a.e 91 (d 14 rfl)]) rfl, trivial⟩ ?_
 clear k27_13
 intro f28 s28 W28 hB28 g28 hg28
 have fB28 := hB28.f fB27
 have z28 := hB28.below.size
 have b28_0 := hB28.b b27_0
 have b28_1 := hB28.b b27_1
 have b28_2 := hB28.b b27_2
 have b28_3 := hB28.b b27_3
 have b28_4 := hB28.b b27_4
 have b28_5 := hB28.b b27_5
 have b28_6 := hB28.b b27_6
 have q18' := (q17'.below hB28.below)
 refine hK35 _ _ ?_
 have k28_1 := kt hg28 1 k27_1
 have k28_2 := kt hg28 2 k27_2
 have k28_4 := kt hg28 4 k27_4
 have k28_5 := kt hg28 5 k27_5
 have k28_6 := kt hg28 6 k27_6
 have k28_7 := kt hg28 7 k27_7
 have k28_9 := kt hg28 9 k27_9
 have k28_10 := kt hg28 10 k27_10
 have k28_8 := kt hg28 8 k27_8
 have k28_12 := kt hg28 12 k27_12
 have k28_68 := kt hg28 68 k27_68
 have k28_14 := kt hg28 14 k27_14
 have k28_74 := kt hg28 74 k27_74
 have k28_13 := kt hg28 13 (hB28.is 15)
 as_aux_lemma =>
 refine region_dk 20 [(92, 0), (93, 1), (94, 2), (95, 3), (96, 4), (97, 5), (98, 6), (99, 7), (100, 8), (101, 9), (102, 10), (103, 11), (104, 12), (105, 13), (106, 14), (107, 15), (108, 16), (109, 17), (110, 18), (111, 19)] [[], [], [0, 1], [0, 1, 2], [], [], [4, 5], [4, 5, 6], [4, 5, 6, 7], [], [4, 5, 6, 7, 8, 9], [4, 5, 6, 7, 8, 9, 10], [], [], [12, 13], [12, 13, 14], [12, 13, 14, 15], [4, 5, 6, 7, 8, 9, 10, 11, 12, 13, 14, 15, 16], [0, 1, 2, 3, 4, 5, 6, 7, 8, 9, 10, 11, 12, 13, 14, 15, 16, 17], [0, 1, 2, 3, 4, 5, 6, 7, 8, 9, 10, 11, 12, 13, 14, 15, 16, 17, 18], [0, 1, 2, 3, 4, 5, 6, 7, 8, 9, 10, 11, 12, 13, 14, 15, 16, 17, 18, 19]] (rel [is (.slice (some ⟨bk3, 0, none⟩) (3) (3)),
   is (.int .i64 0),
   is (.pointer (some ⟨bk3, 0, none⟩)),
   is (.int .i64 0),
   is (.slice (some ⟨bk4, 0, none⟩) (2) (2)),
   is (.int .i64 0),
   is (.pointer (some ⟨bk4, 0, none⟩)),
   is (.pointer (some ⟨bk4, 0, none⟩)),
   is (.slice (some ⟨bk6, 0, none⟩) (3) (3)),
   is (.int .i64 0),
   is (.pointer (some ⟨bk6, 0, none⟩)),
   is (.int .i64 0),
   is (.slice (some ⟨bk4, 0, none⟩) (2) (2)),
   is (.int .i64 0),
   is (.pointer (some ⟨bk4, 0, none⟩)),
   is (.pointer (some ⟨bk4, 1, none⟩)),
   is (.int .i64 r0),
   is (.int .i64 0),
   is (.int .i64 0),
   is (.pointer (some ⟨bk3, 0, none⟩))])
  ⟨is_k, is_k, is_k, is_k, is_k, is_k, is_k, is_k, is_k, is_k, is_k, is_k, is_k, is_k, is_k, is_k, is_k, is_k, is_k, is_k, trivial⟩
  ⟨fun f s W c d g i j a => opv rfl rfl (by simp [go_sem, a.e 9 k28_9]) rfl,
  fun f s W c d g i j a => opv rfl rfl (by simp [go_sem, a.e 14 k28_14]) rfl,
  fun f s W c d g i j a => opv rfl rfl (by simp [go_sem, a.e 92 (d 0 rfl), a.e 93 (d 1 rfl)]) rfl,
  fun f s W c d g i j a => opv rfl rfl (by simp [go_sem, a.e 94 (d 2 rfl), cb b28_3 c 0]) rfl,
  fun f s W c d g i j a => opv rfl rfl (by simp [go_sem, a.e 10 k28_10]) rfl,
  fun f s W c d g i j a => opv rfl rfl (by simp [go_sem, a.e 12 k28_12]) rfl,
  fun f s W c d g i j a => opv rfl rfl (by simp [go_sem, a.e 96 (d 4 rfl), a.e 97 (d 5 rfl)]) rfl,
  fun f s W c d g i j a => opv rfl rfl (by simp [go_sem, a.e 98 (d 6 rfl)]) rfl,
  fun f s W c d g i j a => opv rfl rfl (by simp [go_sem, a.e 99 (d 7 rfl), cb b28_6 c 0]) rfl,
  fun f s W c d g i j a => opv rfl rfl (by simp [go_sem, a.e 14 k28_14]) rfl,
  fun f s W c d g i j a => opv rfl rfl (by simp [go_sem, a.e 100 (d 8 rfl), a.e 101 (d 9 rfl)]) rfl,
  fun f s W c d g i j a => opv rfl rfl (by simp [go_sem, a.e 102 (d 10 rfl), cb b28_4 c 0]) rfl,
  fun f s W c d g i j a => opv rfl rfl (by simp [go_sem, a.e 10 k28_10]) rfl,
  fun f s W c d g i j a => opv rfl rfl (by simp [go_sem, a.e 12 k28_12]) rfl,
  fun f s W c d g i j a => opv rfl rfl (by simp [go_sem, a.e 104 (d 12 rfl), a.e 105 (d 13 rfl)]) rfl,
  fun f s W c d g i j a => opv rfl rfl (by simp [go_sem, a.e 106 (d 14 rfl)]) rfl,
  fun f s W c d g i j a => opv rfl rfl (by simp [go_sem, a.e 107 (d 15 rfl), cb b28_6 c 1]) rfl,
  fun f s W c d g i j a => opv rfl rfl (by simp [go_sem, a.e 103 (d 11 rfl), a.e 108 (d 16 rfl), IntWalk.i64_in (0) (by omega)]) rfl,
  fun f s W c d g i j a => opv rfl rfl (by simp [go_sem, a.e 95 (d 3 rfl), a.e 109 (d 17 rfl), IntWalk.i64_in (0) (by omega)]) rfl,
  fun f s W c d g i j a => opv rfl rfl (by simp [go_sem, a.e 92 (d 0 rfl), a.e 93 (d 1 rfl)]) rfl, trivial⟩ ?_
 clear b27_0 b27_1 b27_2 b27_3 b27_4 b27_5 b27_6 fB27 hB28 hK35 hg28 k27_1 k27_10 k27_12 k27_14 k27_2 k27_4 k27_5 k27_6 k27_68 k27_7 k27_74 k27_8 k27_9
 intro f29 s29 W29 hB29 g29 hg29
 have fB29 := hB29.f fB28
 have z29 := hB29.below.size
 have b29_0 := hB29.b b28_0
 have b29_1 := hB29.b b28_1
 have b29_2 := hB29.b b28_2
 have b29_3 := hB29.b b28_3
 have b29_4 := hB29.b b28_4
 have b29_5 := hB29.b b28_5
 have b29_6 := hB29.b b28_6
 have q19' := (q18'.below hB29.below)
 have k29_1 := kt hg29 1 k28_1
 have k29_2 := kt hg29 2 k28_2
 have k29_4 := kt hg29 4 k28_4
 have k29_5 := kt hg29 5 k28_5
 have k29_6 := kt hg29 6 k28_6
 have k29_7 := kt hg29 7 k28_7
 have k29_9 := kt hg29 9 k28_9
 have k29_10 := kt hg29 10 k28_10
 have k29_8 := kt hg29 8 k28_8
 have k29_12 := kt hg29 12 k28_12
 have k29_68 := kt hg29 68 k28_68
 have k29_14 := kt hg29 14 k28_14
 have k29_74 := kt hg29 74 k28_74
 have k29_13 := kt hg29 13 k28_13
 have k29_110 := kt hg29 110 (hB29.is 18)
 have k29_111 := kt hg29 111 (hB29.is 19)
 obtain ⟨W30, hW30⟩ : ∃ W', W' = W29.setRow bk3 #[.int .i64 0, .int .i64 0, .int .i64 0] := ⟨_, rfl⟩
 refine tail_skip (o := _) rfl ⟨rfl, rfl⟩ (run_seg hW30 (fr_ev k29_111) (fr_ev k29_110) b29_3 rfl rfl rfl rfl) ?_
 obtain ⟨fB30, nb30, ot30, z30⟩ := seg_facts hW30 fB29 b29_3 (by omega)
 clear hW30
 have b30_0 := ot30 _ _ (by omega) b29_0
 have b30_1 := ot30 _ _ (by omega) b29_1
 have b30_2 := ot30 _ _ (by omega) b29_2
 have b30_4 := ot30 _ _ (by omega) b29_4
 have b30_5 := ot30 _ _ (by omega) b29_5
 have b30_6 := ot30 _ _ (by omega) b29_6
 have q20' := q19'.other ot30 (ownN_ne q19' b29_3) z30
 refine wpOps_end ?_
 refine inBlock_normal ?_
 refine hK34 _ _ ?_
 as_aux_lemma =>
 refine region_dk 3 [(75, 0), (76, 1), (14, 2)] [[], [0], [0, 1]] (rel [is (.int .i64 0),
   is (.int .i64 1),
   is (.int .i64 1)])
  ⟨is_k, is_k, is_k, trivial⟩
  ⟨fun f s W c d g i j a => opv rfl rfl (by simp [go_sem, a.e 14 ((i 2 14 rfl rfl).trans k29_14)]) rfl,
  fun f s W c d g i j a => opv rfl rfl (by simp [go_sem, a.e 75 (d 0 rfl), IntWalk.i64_in (1) (by omega)]) rfl,
  fun f s W c d g i j a => opv rfl rfl (by simp [go_sem, a.e 76 (d 1 rfl)]) rfl, trivial⟩ ?_
 clear b28_0 b28_1 b28_2 b28_3 b28_4 b28_5 b28_6 b29_0 b29_1 b29_2 b29_3 b29_4 b29_5 b29_6 fB28 fB29 hB29 hK34 hg29 k28_1 k28_10 k28_12 k28_13 k28_14 k28_2 k28_4 k28_5 k28_6 k28_68 k28_7 k28_74 k28_8 k28_9 k29_14 ot30
 intro f31 s31 W31 hB31 g31 hg31
 have fB31 := hB31.f fB30
 have z31 := hB31.below.size
 have b31_0 := hB31.b b30_0
 have b31_1 := hB31.b b30_1
 have b31_2 := hB31.b b30_2
 have b31_3 := hB31.b nb30
 have b31_4 := hB31.b b30_4
 have b31_5 := hB31.b b30_5
 have b31_6 := hB31.b b30_6
 have q21' := (q20'.below hB31.below)
 refine wpOps_end ?_
 have k31_1 := kt hg31 1 k29_1
 have k31_2 := kt hg31 2 k29_2
 have k31_4 := kt hg31 4 k29_4
 have k31_5 := kt hg31 5 k29_5
 have k31_6 := kt hg31 6 k29_6
 have k31_7 := kt hg31 7 k29_7
 have k31_9 := kt hg31 9 k29_9
 have k31_10 := kt hg31 10 k29_10
 have k31_8 := kt hg31 8 k29_8
 have k31_12 := kt hg31 12 k29_12
 have k31_68 := kt hg31 68 k29_68
 have k31_74 := kt hg31 74 k29_74
 have k31_13 := kt hg31 13 k29_13
 have k31_110 := kt hg31 110 k29_110
 have k31_111 := kt hg31 111 k29_111
 have k31_14 := kt hg31 14 (hB31.is 2)
 refine then_normal ?_
 rw [rounds_succ]
 clear b30_0 b30_1 b30_2 b30_4 b30_5 b30_6 fB30 hB31 hg31 k29_1 k29_10 k29_110 k29_111 k29_12 k29_13 k29_2 k29_4 k29_5 k29_6 k29_68 k29_7 k29_74 k29_8 k29_9 k31_74 nb30
 refine wp_seq_k fun K36 hK36 => ?_
 refine wp_seq_k fun K37 hK37 => ?_
 as_aux_lemma =>
 refine region_dk 2 [(73, 0), (74, 1)] [[], [0]] (rel [is (.int .i64 1),
   is (.bool true)])
  ⟨is_k, is_k, trivial⟩
  ⟨fun f s W c d g i j a => opv rfl rfl (by simp [go_sem, a.e 14 k31_14]) rfl,
  fun f s W c d g i j a => opv rfl rfl (by simp [go_sem, a.e 73 (d 0 rfl)]) rfl, trivial⟩ ?_
 intro f32 s32 W32 hB32 g32 hg32
 have fB32 := hB32.f fB31
 have z32 := hB32.below.size
 have b32_0 := hB32.b b31_0
 have b32_1 := hB32.b b31_1
 have b32_2 := hB32.b b31_2
 have b32_3 := hB32.b b31_3
 have b32_4 := hB32.b b31_4
 have b32_5 := hB32.b b31_5
 have b32_6 := hB32.b b31_6
 have q22' := (q21'.below hB32.below)
 refine hK37 _ _ ?_
 have k32_1 := kt hg32 1 k31_1
 have k32_2 := kt hg32 2 k31_2
 have k32_4 := kt hg32 4 k31_4
 have k32_5 := kt hg32 5 k31_5
 have k32_6 := kt hg32 6 k31_6
 have k32_7 := kt hg32 7 k31_7
 have k32_9 := kt hg32 9 k31_9
 have k32_10 := kt hg32 10 k31_10
 have k32_8 := kt hg32 8 k31_8
 have k32_12 := kt hg32 12 k31_12
 have k32_68 := kt hg32 68 k31_68
 have k32_13 := kt hg32 13 k31_13
 have k32_110 := kt hg32 110 k31_110
 have k32_111 := kt hg32 111 k31_111
 have k32_14 := kt hg32 14 k31_14
 have k32_74 := kt hg32 74 (hB32.is 1)
 clear b31_0 b31_1 b31_2 b31_3 b31_4 b31_5 b31_6 fB31 hB32 hK37 hg32 k31_1 k31_10 k31_110 k31_111 k31_12 k31_13 k31_14 k31_2 k31_4 k31_5 k31_6 k31_68 k31_7 k31_8 k31_9
 refine wp_cond_true ((fr_eval rfl).trans k32_74) ?_
 refine wp_skip ?_
 refine hK36 _ _ ?_
 clear hK36
 refine wp_seq_k fun K39 hK39 => ?_
 refine wp_block ?_
 refine wp_seq_k fun K40 hK40 => ?_
 as_aux_lemma =>
 refine region_dk 16 [(77, 0), (78, 1), (79, 2), (80, 3), (81, 4), (82, 5), (83, 6), (84, 7), (85, 8), (86, 9), (87, 10), (88, 11), (89, 12), (90, 13), (91, 14), (13, 15)] [[], [], [], [1, 2], [1, 2, 3], [1, 2, 3, 4], [], [1, 2, 3, 4, 5, 6], [1, 2, 3, 4, 5, 6, 7], [], [], [9, 10], [9, 10, 11], [1, 2, 3, 4, 5, 6, 7, 8, 9, 10, 11, 12], [0, 1, 2, 3, 4, 5, 6, 7, 8, 9, 10, 11, 12, 13], [0, 1, 2, 3, 4, 5, 6, 7, 8, 9, 10, 11, 12, 13, 14]] (rel [is (.int .i64 2900),
   is (.slice (some ⟨bk4, 0, none⟩) (2) (2)),
   is (.int .i64 0),
   is (.pointer (some ⟨bk4, 0, none⟩)),
   is (.pointer (some ⟨bk4, 0, none⟩)),
   is (.slice (some ⟨bk6, 0, none⟩) (3) (3)),
   is (.int .i64 1),
   is (.pointer (some ⟨bk6, 1, none⟩)),
   is (.int .i64 0),
   is (.slice (ay) (3) (cy)),
   is (.int .i64 1),
   is (.pointer (some ⟨by_, oy_ + 1, none⟩)),
   is (.int .i64 al1),
   is (.int .i64 0),
   is (.int .i64 2900),
   is (.int .i64 2900)])
  ⟨is_k, is_k, is_k, is_k, is_k, is_k, is_k, is_k, is_k, is_k, is_k, is_k, is_k, is_k, is_k, is_k, trivial⟩
  ⟨fun f s W c d g i j a => opv rfl rfl (by simp [go_sem, a.e 13 ((i 15 13 rfl rfl).trans k32_13)]) rfl,
  fun f s W c d g i j a => opv rfl rfl (by simp [go_sem, a.e 10 k32_10]) rfl,
  fun f s W c d g i j a => opv rfl rfl (by simp [go_sem, a.e 12 k32_12]) rfl,
  fun f s W c d g i j a => opv rfl rfl (by simp [go_sem, a.e 78 (d 1 rfl), a.e 79 (d 2 rfl)]) rfl,
  fun f s W c d g i j a => opv rfl rfl (by simp [go_sem, a.e 80 (d 3 rfl)]) rfl,
  fun f s W c d g i j a => opv rfl rfl (by simp [go_sem, a.e 81 (d 4 rfl), cb b32_6 c 0]) rfl,
  fun f s W c d g i j a => opv rfl rfl (by simp [go_sem, a.e 14 k32_14]) rfl,
  fun f s W c d g i j a => opv rfl rfl (by simp [go_sem, a.e 82 (d 5 rfl), a.e 83 (d 6 rfl)]) rfl,
  fun f s W c d g i j a => opv rfl rfl (by simp [go_sem, a.e 84 (d 7 rfl), cb b32_4 c 1]) rfl,
  fun f s W c d g i j a => opv rfl rfl (by simp [go_sem, a.e 1 k32_1]) rfl,
  fun f s W c d g i j a => opv rfl rfl (by simp [go_sem, a.e 14 k32_14]) rfl,
  fun f s W c d g i j a => by have hab := (hY_ (by decide)).1; exact opv rfl rfl (by simp [go_sem, a.e 86 (d 9 rfl), a.e 87 (d 10 rfl), hab]) rfl,
  fun f s W c d g i j a => by have l := below_trans fB32 c; have cu_ : W.cell? ⟨by_, oy_ + 1, none⟩ = some (.int .i64 al1) := (hY_ (by decide)).2 W l 1 (by decide); exact opv rfl rfl (by simp [go_sem, a.e 88 (d 11 rfl), cu_]) rfl,
  fun f s W c d g i j a => opv rfl rfl (by simp [go_sem, a.e 85 (d 8 rfl), a.e 89 (d 12 rfl), IntWalk.i64_in (0) (by omega)]) rfl,
  fun f s W c d g i j a => opv rfl rfl (by simp [go_sem, a.e 77 (d 0 rfl), a.e 90 (d 13 rfl), IntWalk.i64_in (2900) (by omega)]) rfl,
  fun f s W c d g i j a => opv rfl rfl (by simp [go_sem, a.e 91 (d 14 rfl)]) rfl, trivial⟩ ?_
 clear k32_13
 intro f33 s33 W33 hB33 g33 hg33
 have fB33 := hB33.f fB32
 have z33 := hB33.below.size
 have b33_0 := hB33.b b32_0
 have b33_1 := hB33.b b32_1
 have b33_2 := hB33.b b32_2
 have b33_3 := hB33.b b32_3
 have b33_4 := hB33.b b32_4
 have b33_5 := hB33.b b32_5
 have b33_6 := hB33.b b32_6
 have q23' := (q22'.below hB33.below)
 refine hK40 _ _ ?_
 have k33_1 := kt hg33 1 k32_1
 have k33_2 := kt hg33 2 k32_2
 have k33_4 := kt hg33 4 k32_4
 have k33_5 := kt hg33 5 k32_5
 have k33_6 := kt hg33 6 k32_6
 have k33_7 := kt hg33 7 k32_7
 have k33_9 := kt hg33 9 k32_9
 have k33_10 := kt hg33 10 k32_10
 have k33_8 := kt hg33 8 k32_8
 have k33_12 := kt hg33 12 k32_12
 have k33_68 := kt hg33 68 k32_68
 have k33_110 := kt hg33 110 k32_110
 have k33_111 := kt hg33 111 k32_111
 have k33_14 := kt hg33 14 k32_14
 have k33_74 := kt hg33 74 k32_74
 have k33_13 := kt hg33 13 (hB33.is 15)
 as_aux_lemma =>
 refine region_dk 20 [(92, 0), (93, 1), (94, 2), (95, 3), (96, 4), (97, 5), (98, 6), (99, 7), (100, 8), (101, 9), (102, 10), (103, 11), (104, 12), (105, 13), (106, 14), (107, 15), (108, 16), (109, 17), (110, 18), (111, 19)] [[], [], [0, 1], [0, 1, 2], [], [], [4, 5], [4, 5, 6], [4, 5, 6, 7], [], [4, 5, 6, 7, 8, 9], [4, 5, 6, 7, 8, 9, 10], [], [], [12, 13], [12, 13, 14], [12, 13, 14, 15], [4, 5, 6, 7, 8, 9, 10, 11, 12, 13, 14, 15, 16], [0, 1, 2, 3, 4, 5, 6, 7, 8, 9, 10, 11, 12, 13, 14, 15, 16, 17], [0, 1, 2, 3, 4, 5, 6, 7, 8, 9, 10, 11, 12, 13, 14, 15, 16, 17, 18], [0, 1, 2, 3, 4, 5, 6, 7, 8, 9, 10, 11, 12, 13, 14, 15, 16, 17, 18, 19]] (rel [is (.slice (some ⟨bk3, 0, none⟩) (3) (3)),
   is (.int .i64 1),
   is (.pointer (some ⟨bk3, 1, none⟩)),
   is (.int .i64 0),
   is (.slice (some ⟨bk4, 0, none⟩) (2) (2)),
   is (.int .i64 0),
   is (.pointer (some ⟨bk4, 0, none⟩)),
   is (.pointer (some ⟨bk4, 0, none⟩)),
   is (.slice (some ⟨bk6, 0, none⟩) (3) (3)),
   is (.int .i64 1),
   is (.pointer (some ⟨bk6, 1, none⟩)),
   is (.int .i64 0),
   is (.slice (some ⟨bk4, 0, none⟩) (2) (2)),
   is (.int .i64 0),
   is (.pointer (some ⟨bk4, 0, none⟩)),
   is (.pointer (some ⟨bk4, 1, none⟩)),
   is (.int .i64 r0),
   is (.int .i64 0),
   is (.int .i64 0),
   is (.pointer (some ⟨bk3, 1, none⟩))])
  ⟨is_k, is_k, is_k, is_k, is_k, is_k, is_k, is_k, is_k, is_k, is_k, is_k, is_k, is_k, is_k, is_k, is_k, is_k, is_k, is_k, trivial⟩
  ⟨fun f s W c d g i j a => opv rfl rfl (by simp [go_sem, a.e 9 k33_9]) rfl,
  fun f s W c d g i j a => opv rfl rfl (by simp [go_sem, a.e 14 k33_14]) rfl,
  fun f s W c d g i j a => opv rfl rfl (by simp [go_sem, a.e 92 (d 0 rfl), a.e 93 (d 1 rfl)]) rfl,
  fun f s W c d g i j a => opv rfl rfl (by simp [go_sem, a.e 94 (d 2 rfl), cb b33_3 c 1]) rfl,
  fun f s W c d g i j a => opv rfl rfl (by simp [go_sem, a.e 10 k33_10]) rfl,
  fun f s W c d g i j a => opv rfl rfl (by simp [go_sem, a.e 12 k33_12]) rfl,
  fun f s W c d g i j a => opv rfl rfl (by simp [go_sem, a.e 96 (d 4 rfl), a.e 97 (d 5 rfl)]) rfl,
  fun f s W c d g i j a => opv rfl rfl (by simp [go_sem, a.e 98 (d 6 rfl)]) rfl,
  fun f s W c d g i j a => opv rfl rfl (by simp [go_sem, a.e 99 (d 7 rfl), cb b33_6 c 0]) rfl,
  fun f s W c d g i j a => opv rfl rfl (by simp [go_sem, a.e 14 k33_14]) rfl,
  fun f s W c d g i j a => opv rfl rfl (by simp [go_sem, a.e 100 (d 8 rfl), a.e 101 (d 9 rfl)]) rfl,
  fun f s W c d g i j a => opv rfl rfl (by simp [go_sem, a.e 102 (d 10 rfl), cb b33_4 c 1]) rfl,
  fun f s W c d g i j a => opv rfl rfl (by simp [go_sem, a.e 10 k33_10]) rfl,
  fun f s W c d g i j a => opv rfl rfl (by simp [go_sem, a.e 12 k33_12]) rfl,
  fun f s W c d g i j a => opv rfl rfl (by simp [go_sem, a.e 104 (d 12 rfl), a.e 105 (d 13 rfl)]) rfl,
  fun f s W c d g i j a => opv rfl rfl (by simp [go_sem, a.e 106 (d 14 rfl)]) rfl,
  fun f s W c d g i j a => opv rfl rfl (by simp [go_sem, a.e 107 (d 15 rfl), cb b33_6 c 1]) rfl,
  fun f s W c d g i j a => opv rfl rfl (by simp [go_sem, a.e 103 (d 11 rfl), a.e 108 (d 16 rfl), IntWalk.i64_in (0) (by omega)]) rfl,
  fun f s W c d g i j a => opv rfl rfl (by simp [go_sem, a.e 95 (d 3 rfl), a.e 109 (d 17 rfl), IntWalk.i64_in (0) (by omega)]) rfl,
  fun f s W c d g i j a => opv rfl rfl (by simp [go_sem, a.e 92 (d 0 rfl), a.e 93 (d 1 rfl)]) rfl, trivial⟩ ?_
 clear b32_0 b32_1 b32_2 b32_3 b32_4 b32_5 b32_6 fB32 hB33 hK40 hg33 k32_1 k32_10 k32_110 k32_111 k32_12 k32_14 k32_2 k32_4 k32_5 k32_6 k32_68 k32_7 k32_74 k32_8 k32_9 k33_110 k33_111
 intro f34 s34 W34 hB34 g34 hg34
 have fB34 := hB34.f fB33
 have z34 := hB34.below.size
 have b34_0 := hB34.b b33_0
 have b34_1 := hB34.b b33_1
 have b34_2 := hB34.b b33_2
 have b34_3 := hB34.b b33_3
 have b34_4 := hB34.b b33_4
 have b34_5 := hB34.b b33_5
 have b34_6 := hB34.b b33_6
 have q24' := (q23'.below hB34.below)
 have k34_1 := kt hg34 1 k33_1
 have k34_2 := kt hg34 2 k33_2
 have k34_4 := kt hg34 4 k33_4
 have k34_5 := kt hg34 5 k33_5
 have k34_6 := kt hg34 6 k33_6
 have k34_7 := kt hg34 7 k33_7
 have k34_9 := kt hg34 9 k33_9
 have k34_10 := kt hg34 10 k33_10
 have k34_8 := kt hg34 8 k33_8
 have k34_12 := kt hg34 12 k33_12
 have k34_68 := kt hg34 68 k33_68
 have k34_14 := kt hg34 14 k33_14
 have k34_74 := kt hg34 74 k33_74
 have k34_13 := kt hg34 13 k33_13
 have k34_110 := kt hg34 110 (hB34.is 18)
 have k34_111 := kt hg34 111 (hB34.is 19)
 obtain ⟨W35, hW35⟩ : ∃ W', W' = W34.setRow bk3 #[.int .i64 0, .int .i64 0, .int .i64 0] := ⟨_, rfl⟩
 refine tail_skip (o := _) rfl ⟨rfl, rfl⟩ (run_seg hW35 (fr_ev k34_111) (fr_ev k34_110) b34_3 rfl rfl rfl rfl) ?_
 obtain ⟨fB35, nb35, ot35, z35⟩ := seg_facts hW35 fB34 b34_3 (by omega)
 clear hW35
 have b35_0 := ot35 _ _ (by omega) b34_0
 have b35_1 := ot35 _ _ (by omega) b34_1
 have b35_2 := ot35 _ _ (by omega) b34_2
 have b35_4 := ot35 _ _ (by omega) b34_4
 have b35_5 := ot35 _ _ (by omega) b34_5
 have b35_6 := ot35 _ _ (by omega) b34_6
 have q25' := q24'.other ot35 (ownN_ne q24' b34_3) z35
 refine wpOps_end ?_
 refine inBlock_normal ?_
 refine hK39 _ _ ?_
 as_aux_lemma =>
 refine region_dk 3 [(75, 0), (76, 1), (14, 2)] [[], [0], [0, 1]] (rel [is (.int .i64 1),
   is (.int .i64 2),
   is (.int .i64 2)])
  ⟨is_k, is_k, is_k, trivial⟩
  ⟨fun f s W c d g i j a => opv rfl rfl (by simp [go_sem, a.e 14 ((i 2 14 rfl rfl).trans k34_14)]) rfl,
  fun f s W c d g i j a => opv rfl rfl (by simp [go_sem, a.e 75 (d 0 rfl), IntWalk.i64_in (2) (by omega)]) rfl,
  fun f s W c d g i j a => opv rfl rfl (by simp [go_sem, a.e 76 (d 1 rfl)]) rfl, trivial⟩ ?_
 clear b33_0 b33_1 b33_2 b33_3 b33_4 b33_5 b33_6 b34_0 b34_1 b34_2 b34_3 b34_4 b34_5 b34_6 fB33 fB34 hB34 hK39 hg34 k33_1 k33_10 k33_12 k33_13 k33_14 k33_2 k33_4 k33_5 k33_6 k33_68 k33_7 k33_74 k33_8 k33_9 k34_14 ot35
 intro f36 s36 W36 hB36 g36 hg36
 have fB36 := hB36.f fB35
 have z36 := hB36.below.size
 have b36_0 := hB36.b b35_0
 have b36_1 := hB36.b b35_1
 have b36_2 := hB36.b b35_2
 have b36_3 := hB36.b nb35
 have b36_4 := hB36.b b35_4
 have b36_5 := hB36.b b35_5
 have b36_6 := hB36.b b35_6
 have q26' := (q25'.below hB36.below)
 refine wpOps_end ?_
 have k36_1 := kt hg36 1 k34_1
 have k36_2 := kt hg36 2 k34_2
 have k36_4 := kt hg36 4 k34_4
 have k36_5 := kt hg36 5 k34_5
 have k36_6 := kt hg36 6 k34_6
 have k36_7 := kt hg36 7 k34_7
 have k36_9 := kt hg36 9 k34_9
 have k36_10 := kt hg36 10 k34_10
 have k36_8 := kt hg36 8 k34_8
 have k36_12 := kt hg36 12 k34_12
 have k36_68 := kt hg36 68 k34_68
 have k36_74 := kt hg36 74 k34_74
 have k36_13 := kt hg36 13 k34_13
 have k36_110 := kt hg36 110 k34_110
 have k36_111 := kt hg36 111 k34_111
 have k36_14 := kt hg36 14 (hB36.is 2)
 refine then_normal ?_
 rw [rounds_succ]
 clear b35_0 b35_1 b35_2 b35_4 b35_5 b35_6 fB35 hB36 hg36 k34_1 k34_10 k34_110 k34_111 k34_12 k34_13 k34_2 k34_4 k34_5 k34_6 k34_68 k34_7 k34_74 k34_8 k34_9 k36_74 nb35
 refine wp_seq_k fun K41 hK41 => ?_
 refine wp_seq_k fun K42 hK42 => ?_
 as_aux_lemma =>
 refine region_dk 2 [(73, 0), (74, 1)] [[], [0]] (rel [is (.int .i64 2),
   is (.bool true)])
  ⟨is_k, is_k, trivial⟩
  ⟨fun f s W c d g i j a => opv rfl rfl (by simp [go_sem, a.e 14 k36_14]) rfl,
  fun f s W c d g i j a => opv rfl rfl (by simp [go_sem, a.e 73 (d 0 rfl)]) rfl, trivial⟩ ?_
 intro f37 s37 W37 hB37 g37 hg37
 have fB37 := hB37.f fB36
 have z37 := hB37.below.size
 have b37_0 := hB37.b b36_0
 have b37_1 := hB37.b b36_1
 have b37_2 := hB37.b b36_2
 have b37_3 := hB37.b b36_3
 have b37_4 := hB37.b b36_4
 have b37_5 := hB37.b b36_5
 have b37_6 := hB37.b b36_6
 have q27' := (q26'.below hB37.below)
 refine hK42 _ _ ?_
 have k37_1 := kt hg37 1 k36_1
 have k37_2 := kt hg37 2 k36_2
 have k37_4 := kt hg37 4 k36_4
 have k37_5 := kt hg37 5 k36_5
 have k37_6 := kt hg37 6 k36_6
 have k37_7 := kt hg37 7 k36_7
 have k37_9 := kt hg37 9 k36_9
 have k37_10 := kt hg37 10 k36_10
 have k37_8 := kt hg37 8 k36_8
 have k37_12 := kt hg37 12 k36_12
 have k37_68 := kt hg37 68 k36_68
 have k37_13 := kt hg37 13 k36_13
 have k37_110 := kt hg37 110 k36_110
 have k37_111 := kt hg37 111 k36_111
 have k37_14 := kt hg37 14 k36_14
 have k37_74 := kt hg37 74 (hB37.is 1)
 clear b36_0 b36_1 b36_2 b36_3 b36_4 b36_5 b36_6 fB36 hB37 hK42 hg37 k36_1 k36_10 k36_110 k36_111 k36_12 k36_13 k36_14 k36_2 k36_4 k36_5 k36_6 k36_68 k36_7 k36_8 k36_9
 refine wp_cond_true ((fr_eval rfl).trans k37_74) ?_
 refine wp_skip ?_
 refine hK41 _ _ ?_
 clear hK41
 refine wp_seq_k fun K44 hK44 => ?_
 refine wp_block ?_
 refine wp_seq_k fun K45 hK45 => ?_
 as_aux_lemma =>
 refine region_dk 16 [(77, 0), (78, 1), (79, 2), (80, 3), (81, 4), (82, 5), (83, 6), (84, 7), (85, 8), (86, 9), (87, 10), (88, 11), (89, 12), (90, 13), (91, 14), (13, 15)] [[], [], [], [1, 2], [1, 2, 3], [1, 2, 3, 4], [], [1, 2, 3, 4, 5, 6], [1, 2, 3, 4, 5, 6, 7], [], [], [9, 10], [9, 10, 11], [1, 2, 3, 4, 5, 6, 7, 8, 9, 10, 11, 12], [0, 1, 2, 3, 4, 5, 6, 7, 8, 9, 10, 11, 12, 13], [0, 1, 2, 3, 4, 5, 6, 7, 8, 9, 10, 11, 12, 13, 14]] (rel [is (.int .i64 2900),
   is (.slice (some ⟨bk4, 0, none⟩) (2) (2)),
   is (.int .i64 0),
   is (.pointer (some ⟨bk4, 0, none⟩)),
   is (.pointer (some ⟨bk4, 0, none⟩)),
   is (.slice (some ⟨bk6, 0, none⟩) (3) (3)),
   is (.int .i64 2),
   is (.pointer (some ⟨bk6, 2, none⟩)),
   is (.int .i64 m2),
   is (.slice (ay) (3) (cy)),
   is (.int .i64 2),
   is (.pointer (some ⟨by_, oy_ + 2, none⟩)),
   is (.int .i64 al2),
   is (.int .i64 ma2),
   is (.int .i64 lf0),
   is (.int .i64 lf0)])
  ⟨is_k, is_k, is_k, is_k, is_k, is_k, is_k, is_k, is_k, is_k, is_k, is_k, is_k, is_k, is_k, is_k, trivial⟩
  ⟨fun f s W c d g i j a => opv rfl rfl (by simp [go_sem, a.e 13 ((i 15 13 rfl rfl).trans k37_13)]) rfl,
  fun f s W c d g i j a => opv rfl rfl (by simp [go_sem, a.e 10 k37_10]) rfl,
  fun f s W c d g i j a => opv rfl rfl (by simp [go_sem, a.e 12 k37_12]) rfl,
  fun f s W c d g i j a => opv rfl rfl (by simp [go_sem, a.e 78 (d 1 rfl), a.e 79 (d 2 rfl)]) rfl,
  fun f s W c d g i j a => opv rfl rfl (by simp [go_sem, a.e 80 (d 3 rfl)]) rfl,
  fun f s W c d g i j a => opv rfl rfl (by simp [go_sem, a.e 81 (d 4 rfl), cb b37_6 c 0]) rfl,
  fun f s W c d g i j a => opv rfl rfl (by simp [go_sem, a.e 14 k37_14]) rfl,
  fun f s W c d g i j a => opv rfl rfl (by simp [go_sem, a.e 82 (d 5 rfl), a.e 83 (d 6 rfl)]) rfl,
  fun f s W c d g i j a => opv rfl rfl (by simp [go_sem, a.e 84 (d 7 rfl), cb b37_4 c 2]) rfl,
  fun f s W c d g i j a => opv rfl rfl (by simp [go_sem, a.e 1 k37_1]) rfl,
  fun f s W c d g i j a => opv rfl rfl (by simp [go_sem, a.e 14 k37_14]) rfl,
  fun f s W c d g i j a => by have hab := (hY_ (by decide)).1; exact opv rfl rfl (by simp [go_sem, a.e 86 (d 9 rfl), a.e 87 (d 10 rfl), hab]) rfl,
  fun f s W c d g i j a => by have l := below_trans fB37 c; have cu_ : W.cell? ⟨by_, oy_ + 2, none⟩ = some (.int .i64 al2) := (hY_ (by decide)).2 W l 2 (by decide); exact opv rfl rfl (by simp [go_sem, a.e 88 (d 11 rfl), cu_]) rfl,
  fun f s W c d g i j a => by have rn_ : m2 * al2 = ma2 := hma2.out; have rm_ := IntWalk.i64_in ma2 (by omega); exact opv rfl rfl (by simp [go_sem, a.e 85 (d 8 rfl), a.e 89 (d 12 rfl), IntWalk.i64_in (m2 * al2) (by rw [hma2.out]; omega), rn_, rm_]) rfl,
  fun f s W c d g i j a => by have rn_ : 2900 - ma2 = lf0 := hlf0.out; have rm_ := IntWalk.i64_in lf0 (by omega); exact opv rfl rfl (by simp [go_sem, a.e 77 (d 0 rfl), a.e 90 (d 13 rfl), IntWalk.i64_in (2900 - ma2) (by omega), rn_, rm_]) rfl,
  fun f s W c d g i j a => opv rfl rfl (by simp [go_sem, a.e 91 (d 14 rfl)]) rfl, trivial⟩ ?_
 clear k37_13
 intro f38 s38 W38 hB38 g38 hg38
 have fB38 := hB38.f fB37
 have z38 := hB38.below.size
 have b38_0 := hB38.b b37_0
 have b38_1 := hB38.b b37_1
 have b38_2 := hB38.b b37_2
 have b38_3 := hB38.b b37_3
 have b38_4 := hB38.b b37_4
 have b38_5 := hB38.b b37_5
 have b38_6 := hB38.b b37_6
 have q28' := (q27'.below hB38.below)
 refine hK45 _ _ ?_
 have k38_1 := kt hg38 1 k37_1
 have k38_2 := kt hg38 2 k37_2
 have k38_4 := kt hg38 4 k37_4
 have k38_5 := kt hg38 5 k37_5
 have k38_6 := kt hg38 6 k37_6
 have k38_7 := kt hg38 7 k37_7
 have k38_9 := kt hg38 9 k37_9
 have k38_10 := kt hg38 10 k37_10
 have k38_8 := kt hg38 8 k37_8
 have k38_12 := kt hg38 12 k37_12
 have k38_68 := kt hg38 68 k37_68
 have k38_110 := kt hg38 110 k37_110
 have k38_111 := kt hg38 111 k37_111
 have k38_14 := kt hg38 14 k37_14
 have k38_74 := kt hg38 74 k37_74
 have k38_13 := kt hg38 13 (hB38.is 15)
 as_aux_lemma =>
 refine region_dk 20 [(92, 0), (93, 1), (94, 2), (95, 3), (96, 4), (97, 5), (98, 6), (99, 7), (100, 8), (101, 9), (102, 10), (103, 11), (104, 12), (105, 13), (106, 14), (107, 15), (108, 16), (109, 17), (110, 18), (111, 19)] [[], [], [0, 1], [0, 1, 2], [], [], [4, 5], [4, 5, 6], [4, 5, 6, 7], [], [4, 5, 6, 7, 8, 9], [4, 5, 6, 7, 8, 9, 10], [], [], [12, 13], [12, 13, 14], [12, 13, 14, 15], [4, 5, 6, 7, 8, 9, 10, 11, 12, 13, 14, 15, 16], [0, 1, 2, 3, 4, 5, 6, 7, 8, 9, 10, 11, 12, 13, 14, 15, 16, 17], [0, 1, 2, 3, 4, 5, 6, 7, 8, 9, 10, 11, 12, 13, 14, 15, 16, 17, 18], [0, 1, 2, 3, 4, 5, 6, 7, 8, 9, 10, 11, 12, 13, 14, 15, 16, 17, 18, 19]] (rel [is (.slice (some ⟨bk3, 0, none⟩) (3) (3)),
   is (.int .i64 2),
   is (.pointer (some ⟨bk3, 2, none⟩)),
   is (.int .i64 0),
   is (.slice (some ⟨bk4, 0, none⟩) (2) (2)),
   is (.int .i64 0),
   is (.pointer (some ⟨bk4, 0, none⟩)),
   is (.pointer (some ⟨bk4, 0, none⟩)),
   is (.slice (some ⟨bk6, 0, none⟩) (3) (3)),
   is (.int .i64 2),
   is (.pointer (some ⟨bk6, 2, none⟩)),
   is (.int .i64 m2),
   is (.slice (some ⟨bk4, 0, none⟩) (2) (2)),
   is (.int .i64 0),
   is (.pointer (some ⟨bk4, 0, none⟩)),
   is (.pointer (some ⟨bk4, 1, none⟩)),
   is (.int .i64 r0),
   is (.int .i64 qq2),
   is (.int .i64 qq2),
   is (.pointer (some ⟨bk3, 2, none⟩))])
  ⟨is_k, is_k, is_k, is_k, is_k, is_k, is_k, is_k, is_k, is_k, is_k, is_k, is_k, is_k, is_k, is_k, is_k, is_k, is_k, is_k, trivial⟩
  ⟨fun f s W c d g i j a => opv rfl rfl (by simp [go_sem, a.e 9 k38_9]) rfl,
  fun f s W c d g i j a => opv rfl rfl (by simp [go_sem, a.e 14 k38_14]) rfl,
  fun f s W c d g i j a => opv rfl rfl (by simp [go_sem, a.e 92 (d 0 rfl), a.e 93 (d 1 rfl)]) rfl,
  fun f s W c d g i j a => opv rfl rfl (by simp [go_sem, a.e 94 (d 2 rfl), cb b38_3 c 2]) rfl,
  fun f s W c d g i j a => opv rfl rfl (by simp [go_sem, a.e 10 k38_10]) rfl,
  fun f s W c d g i j a => opv rfl rfl (by simp [go_sem, a.e 12 k38_12]) rfl,
  fun f s W c d g i j a => opv rfl rfl (by simp [go_sem, a.e 96 (d 4 rfl), a.e 97 (d 5 rfl)]) rfl,
  fun f s W c d g i j a => opv rfl rfl (by simp [go_sem, a.e 98 (d 6 rfl)]) rfl,
  fun f s W c d g i j a => opv rfl rfl (by simp [go_sem, a.e 99 (d 7 rfl), cb b38_6 c 0]) rfl,
  fun f s W c d g i j a => opv rfl rfl (by simp [go_sem, a.e 14 k38_14]) rfl,
  fun f s W c d g i j a => opv rfl rfl (by simp [go_sem, a.e 100 (d 8 rfl), a.e 101 (d 9 rfl)]) rfl,
  fun f s W c d g i j a => opv rfl rfl (by simp [go_sem, a.e 102 (d 10 rfl), cb b38_4 c 2]) rfl,
  fun f s W c d g i j a => opv rfl rfl (by simp [go_sem, a.e 10 k38_10]) rfl,
  fun f s W c d g i j a => opv rfl rfl (by simp [go_sem, a.e 12 k38_12]) rfl,
  fun f s W c d g i j a => opv rfl rfl (by simp [go_sem, a.e 104 (d 12 rfl), a.e 105 (d 13 rfl)]) rfl,
  fun f s W c d g i j a => opv rfl rfl (by simp [go_sem, a.e 106 (d 14 rfl)]) rfl,
  fun f s W c d g i j a => opv rfl rfl (by simp [go_sem, a.e 107 (d 15 rfl), cb b38_6 c 1]) rfl,
  fun f s W c d g i j a => by have rn_ : m2 * r0 = qq2 := hqq2.out; have rm_ := IntWalk.i64_in qq2 (by omega); exact opv rfl rfl (by simp [go_sem, a.e 103 (d 11 rfl), a.e 108 (d 16 rfl), IntWalk.i64_in (m2 * r0) (by rw [hqq2.out]; omega), rn_, rm_]) rfl,
  fun f s W c d g i j a => opv rfl rfl (by simp [go_sem, a.e 95 (d 3 rfl), a.e 109 (d 17 rfl), IntWalk.i64_in (qq2) (by omega)]) rfl,
  fun f s W c d g i j a => opv rfl rfl (by simp [go_sem, a.e 92 (d 0 rfl), a.e 93 (d 1 rfl)]) rfl, trivial⟩ ?_
 clear b37_0 b37_1 b37_2 b37_3 b37_4 b37_5 b37_6 fB37 hB38 hK45 hg38 k37_1 k37_10 k37_110 k37_111 k37_12 k37_14 k37_2 k37_4 k37_5 k37_6 k37_68 k37_7 k37_74 k37_8 k37_9 k38_110 k38_111
 intro f39 s39 W39 hB39 g39 hg39
 have fB39 := hB39.f fB38
 have z39 := hB39.below.size
 have b39_0 := hB39.b b38_0
 have b39_1 := hB39.b b38_1
 have b39_2 := hB39.b b38_2
 have b39_3 := hB39.b b38_3
 have b39_4 := hB39.b b38_4
 have b39_5 := hB39.b b38_5
 have b39_6 := hB39.b b38_6
 have q29' := (q28'.below hB39.below)
 have k39_1 := kt hg39 1 k38_1
 have k39_2 := kt hg39 2 k38_2
 have k39_4 := kt hg39 4 k38_4
 have k39_5 := kt hg39 5 k38_5
 have k39_6 := kt hg39 6 k38_6
 have k39_7 := kt hg39 7 k38_7
 have k39_9 := kt hg39 9 k38_9
 have k39_10 := kt hg39 10 k38_10
 have k39_8 := kt hg39 8 k38_8
 have k39_12 := kt hg39 12 k38_12
 have k39_68 := kt hg39 68 k38_68
 have k39_14 := kt hg39 14 k38_14
 have k39_74 := kt hg39 74 k38_74
 have k39_13 := kt hg39 13 k38_13
 have k39_110 := kt hg39 110 (hB39.is 18)
 have k39_111 := kt hg39 111 (hB39.is 19)
 obtain ⟨W40, hW40⟩ : ∃ W', W' = W39.setRow bk3 #[.int .i64 0, .int .i64 0, .int .i64 qq2] := ⟨_, rfl⟩
 refine tail_skip (o := _) rfl ⟨rfl, rfl⟩ (run_seg hW40 (fr_ev k39_111) (fr_ev k39_110) b39_3 rfl rfl rfl rfl) ?_
 obtain ⟨fB40, nb40, ot40, z40⟩ := seg_facts hW40 fB39 b39_3 (by omega)
 clear hW40
 have b40_0 := ot40 _ _ (by omega) b39_0
 have b40_1 := ot40 _ _ (by omega) b39_1
 have b40_2 := ot40 _ _ (by omega) b39_2
 have b40_4 := ot40 _ _ (by omega) b39_4
 have b40_5 := ot40 _ _ (by omega) b39_5
 have b40_6 := ot40 _ _ (by omega) b39_6
 have q30' := q29'.other ot40 (ownN_ne q29' b39_3) z40
 refine wpOps_end ?_
 refine inBlock_normal ?_
 refine hK44 _ _ ?_
 as_aux_lemma =>
 refine region_dk 3 [(75, 0), (76, 1), (14, 2)] [[], [0], [0, 1]] (rel [is (.int .i64 2),
   is (.int .i64 3),
   is (.int .i64 3)])
  ⟨is_k, is_k, is_k, trivial⟩
  ⟨fun f s W c d g i j a => opv rfl rfl (by simp [go_sem, a.e 14 ((i 2 14 rfl rfl).trans k39_14)]) rfl,
  fun f s W c d g i j a => opv rfl rfl (by simp [go_sem, a.e 75 (d 0 rfl), IntWalk.i64_in (3) (by omega)]) rfl,
  fun f s W c d g i j a => opv rfl rfl (by simp [go_sem, a.e 76 (d 1 rfl)]) rfl, trivial⟩ ?_
 clear b38_0 b38_1 b38_2 b38_3 b38_4 b38_5 b38_6 b39_0 b39_1 b39_2 b39_3 b39_4 b39_5 b39_6 fB38 fB39 hB39 hK44 hg39 k38_1 k38_10 k38_12 k38_13 k38_14 k38_2 k38_4 k38_5 k38_6 k38_68 k38_7 k38_74 k38_8 k38_9 k39_14 ot40
 intro f41 s41 W41 hB41 g41 hg41
 have fB41 := hB41.f fB40
 have z41 := hB41.below.size
 have b41_0 := hB41.b b40_0
 have b41_1 := hB41.b b40_1
 have b41_2 := hB41.b b40_2
 have b41_3 := hB41.b nb40
 have b41_4 := hB41.b b40_4
 have b41_5 := hB41.b b40_5
 have b41_6 := hB41.b b40_6
 have q31' := (q30'.below hB41.below)
 refine wpOps_end ?_
 have k41_1 := kt hg41 1 k39_1
 have k41_2 := kt hg41 2 k39_2
 have k41_4 := kt hg41 4 k39_4
 have k41_5 := kt hg41 5 k39_5
 have k41_6 := kt hg41 6 k39_6
 have k41_7 := kt hg41 7 k39_7
 have k41_9 := kt hg41 9 k39_9
 have k41_10 := kt hg41 10 k39_10
 have k41_8 := kt hg41 8 k39_8
 have k41_12 := kt hg41 12 k39_12
 have k41_68 := kt hg41 68 k39_68
 have k41_74 := kt hg41 74 k39_74
 have k41_13 := kt hg41 13 k39_13
 have k41_110 := kt hg41 110 k39_110
 have k41_111 := kt hg41 111 k39_111
 have k41_14 := kt hg41 14 (hB41.is 2)
 refine then_normal ?_
 rw [rounds_succ]
 clear b40_0 b40_1 b40_2 b40_4 b40_5 b40_6 fB40 hB41 hg41 k39_1 k39_10 k39_110 k39_111 k39_12 k39_13 k39_2 k39_4 k39_5 k39_6 k39_68 k39_7 k39_74 k39_8 k39_9 k41_74 nb40
 refine wp_seq_k fun K46 hK46 => ?_
 clear hK46
 refine wp_seq_k fun K47 hK47 => ?_
 as_aux_lemma =>
 refine region_dk 2 [(73, 0), (74, 1)] [[], [0]] (rel [is (.int .i64 3),
   is (.bool false)])
  ⟨is_k, is_k, trivial⟩
  ⟨fun f s W c d g i j a => opv rfl rfl (by simp [go_sem, a.e 14 k41_14]) rfl,
  fun f s W c d g i j a => opv rfl rfl (by simp [go_sem, a.e 73 (d 0 rfl)]) rfl, trivial⟩ ?_
 intro f42 s42 W42 hB42 g42 hg42
 have fB42 := hB42.f fB41
 have z42 := hB42.below.size
 have b42_0 := hB42.b b41_0
 have b42_1 := hB42.b b41_1
 have b42_2 := hB42.b b41_2
 have b42_3 := hB42.b b41_3
 have b42_4 := hB42.b b41_4
 have b42_5 := hB42.b b41_5
 have b42_6 := hB42.b b41_6
 have q32' := (q31'.below hB42.below)
 refine hK47 _ _ ?_
 have k42_1 := kt hg42 1 k41_1
 have k42_2 := kt hg42 2 k41_2
 have k42_4 := kt hg42 4 k41_4
 have k42_5 := kt hg42 5 k41_5
 have k42_6 := kt hg42 6 k41_6
 have k42_7 := kt hg42 7 k41_7
 have k42_9 := kt hg42 9 k41_9
 have k42_10 := kt hg42 10 k41_10
 have k42_8 := kt hg42 8 k41_8
 have k42_12 := kt hg42 12 k41_12
 have k42_68 := kt hg42 68 k41_68
 have k42_13 := kt hg42 13 k41_13
 have k42_110 := kt hg42 110 k41_110
 have k42_111 := kt hg42 111 k41_111
 have k42_14 := kt hg42 14 k41_14
 have k42_74 := kt hg42 74 (hB42.is 1)
 clear b41_0 b41_1 b41_2 b41_3 b41_4 b41_5 b41_6 fB41 hB42 hK47 hg42 k41_1 k41_10 k41_110 k41_111 k41_12 k41_13 k41_14 k41_2 k41_4 k41_5 k41_6 k41_68 k41_7 k41_8 k41_9
 refine wp_cond_false ((fr_eval rfl).trans k42_74) ?_
 refine wp_exit ?_
 refine then_exit ?_
 refine then_exit ?_
 refine inBlock_at ?_
 refine hK29 _ _ ?_
 as_aux_lemma =>
 refine region_dk 18 [(112, 0), (113, 1), (114, 2), (115, 3), (116, 4), (117, 5), (118, 6), (119, 7), (120, 8), (121, 9), (122, 10), (123, 11), (124, 12), (125, 13), (126, 14), (127, 15), (128, 16), (129, 17)] [[], [0], [0, 1], [], [0, 1, 2, 3], [0, 1, 2, 3, 4], [], [6], [6, 7], [], [], [10], [10, 11], [10, 11, 12], [9, 10, 11, 12, 13], [6, 7, 8, 9, 10, 11, 12, 13, 14], [0, 1, 2, 3, 4, 5, 6, 7, 8, 9, 10, 11, 12, 13, 14, 15], [0, 1, 2, 3, 4, 5, 6, 7, 8, 9, 10, 11, 12, 13, 14, 15, 16], [0, 1, 2, 3, 4, 5, 6, 7, 8, 9, 10, 11, 12, 13, 14, 15, 16, 17]] (rel [is (.pointer (some ⟨bk2, 1, none⟩)),
   is (.pointer (some ⟨bk2, 1, none⟩)),
   is (.int .i64 3000),
   is (.int .i64 lf0),
   is (.int .i64 (min 3000 lf0)),
   is (.int .i64 (max 0 (min 3000 lf0))),
   is (.pointer (some ⟨bk2, 1, none⟩)),
   is (.pointer (some ⟨bk2, 2, none⟩)),
   is (.int .i64 0),
   is (.int .i64 lf0),
   is (.pointer (some ⟨bk0, 21, none⟩)),
   is (.int .u8 ((sv 21))),
   is (.int .i64 ((sv 21))),
   is (.int .i64 (((sv 21) % 20))),
   is (.int .i64 (lf0 + ((sv 21) % 20))),
   is (.int .i64 (max 0 (lf0 + ((sv 21) % 20)))),
   is (.agg #[.int .i64 plo0, .int .i64 phi0]),
   is (.pointer (some ⟨bk2, 1, none⟩))])
  ⟨is_k, is_k, is_k, is_k, is_k, is_k, is_k, is_k, is_k, is_k, is_k, is_k, is_k, is_k, is_k, is_k, is_k, is_k, trivial⟩
  ⟨fun f s W c d g i j a => opv rfl rfl (by simp [go_sem, a.e 7 k42_7]) rfl,
  fun f s W c d g i j a => opv rfl rfl (by simp [go_sem, a.e 112 (d 0 rfl)]) rfl,
  fun f s W c d g i j a => opv rfl rfl (by simp [go_sem, a.e 113 (d 1 rfl), cb b42_2 c 1]) rfl,
  fun f s W c d g i j a => opv rfl rfl (by simp [go_sem, a.e 13 k42_13]) rfl,
  fun f s W c d g i j a => opv rfl rfl (by simp [go_sem, a.e 114 (d 2 rfl), a.e 115 (d 3 rfl)]) rfl,
  fun f s W c d g i j a => opv rfl rfl (by simp [go_sem, a.e 116 (d 4 rfl)]) rfl,
  fun f s W c d g i j a => opv rfl rfl (by simp [go_sem, a.e 7 k42_7]) rfl,
  fun f s W c d g i j a => opv rfl rfl (by simp [go_sem, a.e 118 (d 6 rfl)]) rfl,
  fun f s W c d g i j a => opv rfl rfl (by simp [go_sem, a.e 119 (d 7 rfl), cb b42_2 c 2]) rfl,
  fun f s W c d g i j a => opv rfl rfl (by simp [go_sem, a.e 13 k42_13]) rfl,
  fun f s W c d g i j a => opv rfl rfl (by simp [go_sem, a.e 2 k42_2]) rfl,
  fun f s W c d g i j a => opv rfl rfl (by simp [go_sem, a.e 122 (d 10 rfl), cb b42_0 c 21]) rfl,
  fun f s W c d g i j a => by have cv_ := IntWalk.i64_in (sv 21) (by omega); exact opv rfl rfl (by simp [go_sem, a.e 123 (d 11 rfl), cv_]) rfl,
  fun f s W c d g i j a => by have qu_ : ((sv 21)).tmod 20 = ((sv 21) % 20) := Int.tmod_eq_emod_of_nonneg (by omega); have qw_ := IntWalk.i64_in ((sv 21) % 20) (by omega); exact opv rfl rfl (by simp [go_sem, a.e 124 (d 12 rfl), qu_, qw_]) rfl,
  fun f s W c d g i j a => opv rfl rfl (by simp [go_sem, a.e 121 (d 9 rfl), a.e 125 (d 13 rfl), IntWalk.i64_in (lf0 + ((sv 21) % 20)) (by omega)]) rfl,
  fun f s W c d g i j a => opv rfl rfl (by simp [go_sem, a.e 120 (d 8 rfl), a.e 126 (d 14 rfl)]) rfl,
  fun f s W c d g i j a => opDo_call rfl rfl (by simp [go_sem, a.e 117 (d 5 rfl), a.e 127 (d 15 rfl)]) (pubSpan_any (max 0 (min 3000 lf0)) (max 0 (lf0 + ((sv 21) % 20))) W) ((fun e W' h => by have h1 := h.1; rw [hplo0.out, hphi0.out] at h1; exact ⟨_, h1, h.2, rfl⟩)),
  fun f s W c d g i j a => opv rfl rfl (by simp [go_sem, a.e 7 k42_7]) rfl, trivial⟩ ?_
 clear hK29
 intro f43 s43 W43 hB43 g43 hg43
 have fB43 := hB43.f fB42
 have z43 := hB43.below.size
 have b43_0 := hB43.b b42_0
 have b43_1 := hB43.b b42_1
 have b43_2 := hB43.b b42_2
 have b43_3 := hB43.b b42_3
 have b43_4 := hB43.b b42_4
 have b43_5 := hB43.b b42_5
 have b43_6 := hB43.b b42_6
 have q33' := (q32'.below hB43.below)
 have k43_1 := kt hg43 1 k42_1
 have k43_2 := kt hg43 2 k42_2
 have k43_4 := kt hg43 4 k42_4
 have k43_5 := kt hg43 5 k42_5
 have k43_6 := kt hg43 6 k42_6
 have k43_7 := kt hg43 7 k42_7
 have k43_9 := kt hg43 9 k42_9
 have k43_10 := kt hg43 10 k42_10
 have k43_8 := kt hg43 8 k42_8
 have k43_12 := kt hg43 12 k42_12
 have k43_68 := kt hg43 68 k42_68
 have k43_13 := kt hg43 13 k42_13
 have k43_110 := kt hg43 110 k42_110
 have k43_111 := kt hg43 111 k42_111
 have k43_14 := kt hg43 14 k42_14
 have k43_74 := kt hg43 74 k42_74
 have k43_128 := kt hg43 128 (hB43.is 16)
 have k43_129 := kt hg43 129 (hB43.is 17)
 obtain ⟨W44, hW44⟩ : ∃ W', W' = W43.setRow bk2 #[.int .i64 2900, .int .i64 plo0, .int .i64 phi0, .int .i64 4] := ⟨_, rfl⟩
 refine tail_skip (o := _) rfl ⟨rfl, rfl⟩ (run_seg hW44 (fr_ev k43_129) (fr_ev k43_128) b43_2 rfl rfl rfl rfl) ?_
 obtain ⟨fB44, nb44, ot44, z44⟩ := seg_facts hW44 fB43 b43_2 (by omega)
 clear hW44
 have b44_0 := ot44 _ _ (by omega) b43_0
 have b44_1 := ot44 _ _ (by omega) b43_1
 have b44_3 := ot44 _ _ (by omega) b43_3
 have b44_4 := ot44 _ _ (by omega) b43_4
 have b44_5 := ot44 _ _ (by omega) b43_5
 have b44_6 := ot44 _ _ (by omega) b43_6
 have q34' := q33'.other ot44 (ownN_ne q33' b43_2) z44
 refine wpOps_end ?_
 refine inBlock_normal ?_
 refine hK27 _ _ ?_
 as_aux_lemma =>
 refine region_dk 3 [(69, 0), (70, 1), (12, 2)] [[], [0], [0, 1]] (rel [is (.int .i64 0),
   is (.int .i64 1),
   is (.int .i64 1)])
  ⟨is_k, is_k, is_k, trivial⟩
  ⟨fun f s W c d g i j a => opv rfl rfl (by simp [go_sem, a.e 12 ((i 2 12 rfl rfl).trans k43_12)]) rfl,
  fun f s W c d g i j a => opv rfl rfl (by simp [go_sem, a.e 69 (d 0 rfl), IntWalk.i64_in (1) (by omega)]) rfl,
  fun f s W c d g i j a => opv rfl rfl (by simp [go_sem, a.e 70 (d 1 rfl)]) rfl, trivial⟩ ?_
 clear b42_0 b42_1 b42_2 b42_3 b42_4 b42_5 b42_6 b43_0 b43_1 b43_2 b43_3 b43_4 b43_5 b43_6 fB42 fB43 hB43 hK27 hg43 k42_1 k42_10 k42_110 k42_111 k42_12 k42_13 k42_14 k42_2 k42_4 k42_5 k42_6 k42_68 k42_7 k42_74 k42_8 k42_9 k43_12 ot44
 intro f45 s45 W45 hB45 g45 hg45
 have fB45 := hB45.f fB44
 have z45 := hB45.below.size
 have b45_0 := hB45.b b44_0
 have b45_1 := hB45.b b44_1
 have b45_2 := hB45.b nb44
 have b45_3 := hB45.b b44_3
 have b45_4 := hB45.b b44_4
 have b45_5 := hB45.b b44_5
 have b45_6 := hB45.b b44_6
 have q35' := (q34'.below hB45.below)
 refine wpOps_end ?_
 have k45_1 := kt hg45 1 k43_1
 have k45_2 := kt hg45 2 k43_2
 have k45_4 := kt hg45 4 k43_4
 have k45_5 := kt hg45 5 k43_5
 have k45_6 := kt hg45 6 k43_6
 have k45_7 := kt hg45 7 k43_7
 have k45_9 := kt hg45 9 k43_9
 have k45_10 := kt hg45 10 k43_10
 have k45_8 := kt hg45 8 k43_8
 have k45_68 := kt hg45 68 k43_68
 have k45_13 := kt hg45 13 k43_13
 have k45_110 := kt hg45 110 k43_110
 have k45_111 := kt hg45 111 k43_111
 have k45_14 := kt hg45 14 k43_14
 have k45_74 := kt hg45 74 k43_74
 have k45_128 := kt hg45 128 k43_128
 have k45_129 := kt hg45 129 k43_129
 have k45_12 := kt hg45 12 (hB45.is 2)
 refine then_normal ?_
 rw [rounds_succ]
 clear b44_0 b44_1 b44_3 b44_4 b44_5 b44_6 fB44 hB45 hg45 k43_1 k43_10 k43_110 k43_111 k43_128 k43_129 k43_13 k43_14 k43_2 k43_4 k43_5 k43_6 k43_68 k43_7 k43_74 k43_8 k43_9 k45_68 nb44
 refine wp_seq_k fun K49 hK49 => ?_
 refine wp_seq_k fun K50 hK50 => ?_
 as_aux_lemma =>
 refine region_dk 4 [(65, 0), (66, 1), (67, 2), (68, 3)] [[], [], [1], [0, 1, 2]] (rel [is (.int .i64 1),
   is (.slice (some ⟨bk4, 0, none⟩) (2) (2)),
   is (.int .i64 2),
   is (.bool true)])
  ⟨is_k, is_k, is_k, is_k, trivial⟩
  ⟨fun f s W c d g i j a => opv rfl rfl (by simp [go_sem, a.e 12 k45_12]) rfl,
  fun f s W c d g i j a => opv rfl rfl (by simp [go_sem, a.e 10 k45_10]) rfl,
  fun f s W c d g i j a => opv rfl rfl (by simp [go_sem, a.e 66 (d 1 rfl)]) rfl,
  fun f s W c d g i j a => opv rfl rfl (by simp [go_sem, a.e 65 (d 0 rfl), a.e 67 (d 2 rfl)]) rfl, trivial⟩ ?_
 intro f46 s46 W46 hB46 g46 hg46
 have fB46 := hB46.f fB45
 have z46 := hB46.below.size
 have b46_0 := hB46.b b45_0
 have b46_1 := hB46.b b45_1
 have b46_2 := hB46.b b45_2
 have b46_3 := hB46.b b45_3
 have b46_4 := hB46.b b45_4
 have b46_5 := hB46.b b45_5
 have b46_6 := hB46.b b45_6
 have q36' := (q35'.below hB46.below)
 refine hK50 _ _ ?_
 have k46_1 := kt hg46 1 k45_1
 have k46_2 := kt hg46 2 k45_2
 have k46_4 := kt hg46 4 k45_4
 have k46_5 := kt hg46 5 k45_5
 have k46_6 := kt hg46 6 k45_6
 have k46_7 := kt hg46 7 k45_7
 have k46_9 := kt hg46 9 k45_9
 have k46_10 := kt hg46 10 k45_10
 have k46_8 := kt hg46 8 k45_8
 have k46_13 := kt hg46 13 k45_13
 have k46_110 := kt hg46 110 k45_110
 have k46_111 := kt hg46 111 k45_111
 have k46_14 := kt hg46 14 k45_14
 have k46_74 := kt hg46 74 k45_74
 have k46_128 := kt hg46 128 k45_128
 have k46_129 := kt hg46 129 k45_129
 have k46_12 := kt hg46 12 k45_12
 have k46_68 := kt hg46 68 (hB46.is 3)
 clear b45_0 b45_1 b45_2 b45_3 b45_4 b45_5 b45_6 fB45 hB46 hK50 hg46 k45_1 k45_10 k45_110 k45_111 k45_12 k45_128 k45_129 k45_13 k45_14 k45_2 k45_4 k45_5 k45_6 k45_7 k45_74 k45_8 k45_9 k46_13
 refine wp_cond_true ((fr_eval rfl).trans k46_68) ?_
 refine wp_skip ?_
 refine hK49 _ _ ?_
 clear hK49
 refine wp_seq_k fun K52 hK52 => ?_
 refine wp_block ?_
 refine wp_seq_k fun K53 hK53 => ?_
 as_aux_lemma =>
 refine region_dk 3 [(71, 0), (72, 1), (13, 2)] [[], [0], [0, 1]] (rel [is (.pointer (some ⟨bk2, 0, none⟩)),
   is (.int .i64 2900),
   is (.int .i64 2900)])
  ⟨is_k, is_k, is_k, trivial⟩
  ⟨fun f s W c d g i j a => opv rfl rfl (by simp [go_sem, a.e 7 k46_7]) rfl,
  fun f s W c d g i j a => opv rfl rfl (by simp [go_sem, a.e 71 (d 0 rfl), cb b46_2 c 0]) rfl,
  fun f s W c d g i j a => opv rfl rfl (by simp [go_sem, a.e 72 (d 1 rfl)]) rfl, trivial⟩ ?_
 intro f47 s47 W47 hB47 g47 hg47
 have fB47 := hB47.f fB46
 have z47 := hB47.below.size
 have b47_0 := hB47.b b46_0
 have b47_1 := hB47.b b46_1
 have b47_2 := hB47.b b46_2
 have b47_3 := hB47.b b46_3
 have b47_4 := hB47.b b46_4
 have b47_5 := hB47.b b46_5
 have b47_6 := hB47.b b46_6
 have q37' := (q36'.below hB47.below)
 refine hK53 _ _ ?_
 have k47_1 := kt hg47 1 k46_1
 have k47_2 := kt hg47 2 k46_2
 have k47_4 := kt hg47 4 k46_4
 have k47_5 := kt hg47 5 k46_5
 have k47_6 := kt hg47 6 k46_6
 have k47_7 := kt hg47 7 k46_7
 have k47_9 := kt hg47 9 k46_9
 have k47_10 := kt hg47 10 k46_10
 have k47_8 := kt hg47 8 k46_8
 have k47_110 := kt hg47 110 k46_110
 have k47_111 := kt hg47 111 k46_111
 have k47_14 := kt hg47 14 k46_14
 have k47_74 := kt hg47 74 k46_74
 have k47_128 := kt hg47 128 k46_128
 have k47_129 := kt hg47 129 k46_129
 have k47_12 := kt hg47 12 k46_12
 have k47_68 := kt hg47 68 k46_68
 have k47_13 := kt hg47 13 (hB47.is 2)
 clear b46_0 b46_1 b46_2 b46_3 b46_4 b46_5 b46_6 fB46 hB47 hK53 hg47 k46_1 k46_10 k46_110 k46_111 k46_12 k46_128 k46_129 k46_14 k46_2 k46_4 k46_5 k46_6 k46_68 k46_7 k46_74 k46_8 k46_9 k47_14
 refine wp_seq_k fun K54 hK54 => ?_
 refine wp_seq_k fun K55 hK55 => ?_
 as_aux_lemma =>
 refine region_dk 1 [(14, 0)] [[]] (rel [is (.int .i64 0)])
  ⟨is_k, trivial⟩
  ⟨fun f s W c d g i j a => opv rfl rfl (by simp [go_sem]) rfl, trivial⟩ ?_
 intro f48 s48 W48 hB48 g48 hg48
 have fB48 := hB48.f fB47
 have z48 := hB48.below.size
 have b48_0 := hB48.b b47_0
 have b48_1 := hB48.b b47_1
 have b48_2 := hB48.b b47_2
 have b48_3 := hB48.b b47_3
 have b48_4 := hB48.b b47_4
 have b48_5 := hB48.b b47_5
 have b48_6 := hB48.b b47_6
 have q38' := (q37'.below hB48.below)
 refine hK55 _ _ ?_
 have k48_1 := kt hg48 1 k47_1
 have k48_2 := kt hg48 2 k47_2
 have k48_4 := kt hg48 4 k47_4
 have k48_5 := kt hg48 5 k47_5
 have k48_6 := kt hg48 6 k47_6
 have k48_7 := kt hg48 7 k47_7
 have k48_9 := kt hg48 9 k47_9
 have k48_10 := kt hg48 10 k47_10
 have k48_8 := kt hg48 8 k47_8
 have k48_110 := kt hg48 110 k47_110
 have k48_111 := kt hg48 111 k47_111
 have k48_74 := kt hg48 74 k47_74
 have k48_128 := kt hg48 128 k47_128
 have k48_129 := kt hg48 129 k47_129
 have k48_12 := kt hg48 12 k47_12
 have k48_68 := kt hg48 68 k47_68
 have k48_13 := kt hg48 13 k47_13
 have k48_14 := kt hg48 14 (hB48.is 0)
 clear b47_0 b47_1 b47_2 b47_3 b47_4 b47_5 b47_6 fB47 hB48 hK55 hg48 k47_1 k47_10 k47_110 k47_111 k47_12 k47_128 k47_129 k47_13 k47_2 k47_4 k47_5 k47_6 k47_68 k47_7 k47_74 k47_8 k47_9 k48_74
 refine wp_block ?_
 refine wp_loop_rounds 4 ?_
 rw [rounds_succ]
 refine wp_seq_k fun K56 hK56 => ?_
 refine wp_seq_k fun K57 hK57 => ?_
 as_aux_lemma =>
 refine region_dk 2 [(73, 0), (74, 1)] [[], [0]] (rel [is (.int .i64 0),
   is (.bool true)])
  ⟨is_k, is_k, trivial⟩
  ⟨fun f s W c d g i j a => opv rfl rfl (by simp [go_sem, a.e 14 k48_14]) rfl,
  fun f s W c d g i j a => opv rfl rfl (by simp [go_sem, a.e 73 (d 0 rfl)]) rfl, trivial⟩ ?_
 intro f49 s49 W49 hB49 g49 hg49
 have fB49 := hB49.f fB48
 have z49 := hB49.below.size
 have b49_0 := hB49.b b48_0
 have b49_1 := hB49.b b48_1
 have b49_2 := hB49.b b48_2
 have b49_3 := hB49.b b48_3
 have b49_4 := hB49.b b48_4
 have b49_5 := hB49.b b48_5
 have b49_6 := hB49.b b48_6
 have q39' := (q38'.below hB49.below)
 refine hK57 _ _ ?_
 have k49_1 := kt hg49 1 k48_1
 have k49_2 := kt hg49 2 k48_2
 have k49_4 := kt hg49 4 k48_4
 have k49_5 := kt hg49 5 k48_5
 have k49_6 := kt hg49 6 k48_6
 have k49_7 := kt hg49 7 k48_7
 have k49_9 := kt hg49 9 k48_9
 have k49_10 := kt hg49 10 k48_10
 have k49_8 := kt hg49 8 k48_8
 have k49_110 := kt hg49 110 k48_110
 have k49_111 := kt hg49 111 k48_111
 have k49_128 := kt hg49 128 k48_128
 have k49_129 := kt hg49 129 k48_129
 have k49_12 := kt hg49 12 k48_12
 have k49_68 := kt hg49 68 k48_68
 have k49_13 := kt hg49 13 k48_13
 have k49_14 := kt hg49 14 k48_14
 have k49_74 := kt hg49 74 (hB49.is 1)
 clear b48_0 b48_1 b48_2 b48_3 b48_4 b48_5 b48_6 fB48 hB49 hK57 hg49 k48_1 k48_10 k48_110 k48_111 k48_12 k48_128 k48_129 k48_13 k48_14 k48_2 k48_4 k48_5 k48_6 k48_68 k48_7 k48_8 k48_9
 refine wp_cond_true ((fr_eval rfl).trans k49_74) ?_
 refine wp_skip ?_
 refine hK56 _ _ ?_
 clear hK56
 refine wp_seq_k fun K59 hK59 => ?_
 refine wp_block ?_
 refine wp_seq_k fun K60 hK60 => ?_
 as_aux_lemma =>
 refine region_dk 16 [(77, 0), (78, 1), (79, 2), (80, 3), (81, 4), (82, 5), (83, 6), (84, 7), (85, 8), (86, 9), (87, 10), (88, 11), (89, 12), (90, 13), (91, 14), (13, 15)] [[], [], [], [1, 2], [1, 2, 3], [1, 2, 3, 4], [], [1, 2, 3, 4, 5, 6], [1, 2, 3, 4, 5, 6, 7], [], [], [9, 10], [9, 10, 11], [1, 2, 3, 4, 5, 6, 7, 8, 9, 10, 11, 12], [0, 1, 2, 3, 4, 5, 6, 7, 8, 9, 10, 11, 12, 13], [0, 1, 2, 3, 4, 5, 6, 7, 8, 9, 10, 11, 12, 13, 14]] (rel [is (.int .i64 2900),
   is (.slice (some ⟨bk4, 0, none⟩) (2) (2)),
   is (.int .i64 1),
   is (.pointer (some ⟨bk4, 2, none⟩)),
   is (.pointer (some ⟨bk4, 2, none⟩)),
   is (.slice (some ⟨bk7, 0, none⟩) (3) (3)),
   is (.int .i64 0),
   is (.pointer (some ⟨bk7, 0, none⟩)),
   is (.int .i64 1),
   is (.slice (ay) (3) (cy)),
   is (.int .i64 0),
   is (.pointer (some ⟨by_, oy_ + 0, none⟩)),
   is (.int .i64 al0),
   is (.int .i64 al0),
   is (.int .i64 (2900 - al0)),
   is (.int .i64 (2900 - al0))])
  ⟨is_k, is_k, is_k, is_k, is_k, is_k, is_k, is_k, is_k, is_k, is_k, is_k, is_k, is_k, is_k, is_k, trivial⟩
  ⟨fun f s W c d g i j a => opv rfl rfl (by simp [go_sem, a.e 13 ((i 15 13 rfl rfl).trans k49_13)]) rfl,
  fun f s W c d g i j a => opv rfl rfl (by simp [go_sem, a.e 10 k49_10]) rfl,
  fun f s W c d g i j a => opv rfl rfl (by simp [go_sem, a.e 12 k49_12]) rfl,
  fun f s W c d g i j a => opv rfl rfl (by simp [go_sem, a.e 78 (d 1 rfl), a.e 79 (d 2 rfl)]) rfl,
  fun f s W c d g i j a => opv rfl rfl (by simp [go_sem, a.e 80 (d 3 rfl)]) rfl,
  fun f s W c d g i j a => opv rfl rfl (by simp [go_sem, a.e 81 (d 4 rfl), cb b49_6 c 2]) rfl,
  fun f s W c d g i j a => opv rfl rfl (by simp [go_sem, a.e 14 k49_14]) rfl,
  fun f s W c d g i j a => opv rfl rfl (by simp [go_sem, a.e 82 (d 5 rfl), a.e 83 (d 6 rfl)]) rfl,
  fun f s W c d g i j a => opv rfl rfl (by simp [go_sem, a.e 84 (d 7 rfl), cb b49_5 c 0]) rfl,
  fun f s W c d g i j a => opv rfl rfl (by simp [go_sem, a.e 1 k49_1]) rfl,
  fun f s W c d g i j a => opv rfl rfl (by simp [go_sem, a.e 14 k49_14]) rfl,
  fun f s W c d g i j a => by have hab := (hY_ (by decide)).1; exact opv rfl rfl (by simp [go_sem, a.e 86 (d 9 rfl), a.e 87 (d 10 rfl), hab]) rfl,
  fun f s W c d g i j a => by have l := below_trans fB49 c; have cu_ : W.cell? ⟨by_, oy_, none⟩ = some (.int .i64 al0) := (hY_ (by decide)).2 W l 0 (by decide); exact opv rfl rfl (by simp [go_sem, a.e 88 (d 11 rfl), cu_]) rfl,
  fun f s W c d g i j a => opv rfl rfl (by simp [go_sem, a.e 85 (d 8 rfl), a.e 89 (d 12 rfl), IntWalk.i64_in (al0) (by omega)]) rfl,
  fun f s W c d g i j a => opv rfl rfl (by simp [go_sem, a.e 77 (d 0 rfl), a.e 90 (d 13 rfl), IntWalk.i64_in (2900 - al0) (by omega)]) rfl,
  fun f s W c d g i j a => opv rfl rfl (by simp [go_sem, a.e 91 (d 14 rfl)]) rfl, trivial⟩ ?_
 clear k49_13
 intro f50 s50 W50 hB50 g50 hg50
 have fB50 := hB50.f fB49
 have z50 := hB50.below.size
 have b50_0 := hB50.b b49_0
 have b50_1 := hB50.b b49_1
 have b50_2 := hB50.b b49_2
 have b50_3 := hB50.b b49_3
 have b50_4 := hB50.b b49_4
 have b50_5 := hB50.b b49_5
 have b50_6 := hB50.b b49_6
 have q40' := (q39'.below hB50.below)
 refine hK60 _ _ ?_
 have k50_1 := kt hg50 1 k49_1
 have k50_2 := kt hg50 2 k49_2
 have k50_4 := kt hg50 4 k49_4
 have k50_5 := kt hg50 5 k49_5
 have k50_6 := kt hg50 6 k49_6
 have k50_7 := kt hg50 7 k49_7
 have k50_9 := kt hg50 9 k49_9
 have k50_10 := kt hg50 10 k49_10
 have k50_8 := kt hg50 8 k49_8
 have k50_110 := kt hg50 110 k49_110
 have k50_111 := kt hg50 111 k49_111
 have k50_128 := kt hg50 128 k49_128
 have k50_129 := kt hg50 129 k49_129
 have k50_12 := kt hg50 12 k49_12
 have k50_68 := kt hg50 68 k49_68
 have k50_14 := kt hg50 14 k49_14
 have k50_74 := kt hg50 74 k49_74
 have k50_13 := kt hg50 13 (hB50.is 15)
 as_aux_lemma =>
 refine region_dk 20 [(92, 0), (93, 1), (94, 2), (95, 3), (96, 4), (97, 5), (98, 6), (99, 7), (100, 8), (101, 9), (102, 10), (103, 11), (104, 12), (105, 13), (106, 14), (107, 15), (108, 16), (109, 17), (110, 18), (111, 19)] [[], [], [0, 1], [0, 1, 2], [], [], [4, 5], [4, 5, 6], [4, 5, 6, 7], [], [4, 5, 6, 7, 8, 9], [4, 5, 6, 7, 8, 9, 10], [], [], [12, 13], [12, 13, 14], [12, 13, 14, 15], [4, 5, 6, 7, 8, 9, 10, 11, 12, 13, 14, 15, 16], [0, 1, 2, 3, 4, 5, 6, 7, 8, 9, 10, 11, 12, 13, 14, 15, 16, 17], [0, 1, 2, 3, 4, 5, 6, 7, 8, 9, 10, 11, 12, 13, 14, 15, 16, 17, 18], [0, 1, 2, 3, 4, 5, 6, 7, 8, 9, 10, 11, 12, 13, 14, 15, 16, 17, 18, 19]] (rel [is (.slice (some ⟨bk3, 0, none⟩) (3) (3)),
   is (.int .i64 0),
   is (.pointer (some ⟨bk3, 0, none⟩)),
   is (.int .i64 0),
   is (.slice (some ⟨bk4, 0, none⟩) (2) (2)),
   is (.int .i64 1),
   is (.pointer (some ⟨bk4, 2, none⟩)),
   is (.pointer (some ⟨bk4, 2, none⟩)),
   is (.slice (some ⟨bk7, 0, none⟩) (3) (3)),
   is (.int .i64 0),
   is (.pointer (some ⟨bk7, 0, none⟩)),
   is (.int .i64 1),
   is (.slice (some ⟨bk4, 0, none⟩) (2) (2)),
   is (.int .i64 1),
   is (.pointer (some ⟨bk4, 2, none⟩)),
   is (.pointer (some ⟨bk4, 3, none⟩)),
   is (.int .i64 r1),
   is (.int .i64 r1),
   is (.int .i64 r1),
   is (.pointer (some ⟨bk3, 0, none⟩))])
  ⟨is_k, is_k, is_k, is_k, is_k, is_k, is_k, is_k, is_k, is_k, is_k, is_k, is_k, is_k, is_k, is_k, is_k, is_k, is_k, is_k, trivial⟩
  ⟨fun f s W c d g i j a => opv rfl rfl (by simp [go_sem, a.e 9 k50_9]) rfl,
  fun f s W c d g i j a => opv rfl rfl (by simp [go_sem, a.e 14 k50_14]) rfl,
  fun f s W c d g i j a => opv rfl rfl (by simp [go_sem, a.e 92 (d 0 rfl), a.e 93 (d 1 rfl)]) rfl,
  fun f s W c d g i j a => opv rfl rfl (by simp [go_sem, a.e 94 (d 2 rfl), cb b50_3 c 0]) rfl,
  fun f s W c d g i j a => opv rfl rfl (by simp [go_sem, a.e 10 k50_10]) rfl,
  fun f s W c d g i j a => opv rfl rfl (by simp [go_sem, a.e 12 k50_12]) rfl,
  fun f s W c d g i j a => opv rfl rfl (by simp [go_sem, a.e 96 (d 4 rfl), a.e 97 (d 5 rfl)]) rfl,
  fun f s W c d g i j a => opv rfl rfl (by simp [go_sem, a.e 98 (d 6 rfl)]) rfl,
  fun f s W c d g i j a => opv rfl rfl (by simp [go_sem, a.e 99 (d 7 rfl), cb b50_6 c 2]) rfl,
  fun f s W c d g i j a => opv rfl rfl (by simp [go_sem, a.e 14 k50_14]) rfl,
  fun f s W c d g i j a => opv rfl rfl (by simp [go_sem, a.e 100 (d 8 rfl), a.e 101 (d 9 rfl)]) rfl,
  fun f s W c d g i j a => opv rfl rfl (by simp [go_sem, a.e 102 (d 10 rfl), cb b50_5 c 0]) rfl,
  fun f s W c d g i j a => opv rfl rfl (by simp [go_sem, a.e 10 k50_10]) rfl,
  fun f s W c d g i j a => opv rfl rfl (by simp [go_sem, a.e 12 k50_12]) rfl,
  fun f s W c d g i j a => opv rfl rfl (by simp [go_sem, a.e 104 (d 12 rfl), a.e 105 (d 13 rfl)]) rfl,
  fun f s W c d g i j a => opv rfl rfl (by simp [go_sem, a.e 106 (d 14 rfl)]) rfl,
  fun f s W c d g i j a => opv rfl rfl (by simp [go_sem, a.e 107 (d 15 rfl), cb b50_6 c 3]) rfl,
  fun f s W c d g i j a => opv rfl rfl (by simp [go_sem, a.e 103 (d 11 rfl), a.e 108 (d 16 rfl), IntWalk.i64_in (r1) (by omega)]) rfl,
  fun f s W c d g i j a => opv rfl rfl (by simp [go_sem, a.e 95 (d 3 rfl), a.e 109 (d 17 rfl), IntWalk.i64_in (r1) (by omega)]) rfl,
  fun f s W c d g i j a => opv rfl rfl (by simp [go_sem, a.e 92 (d 0 rfl), a.e 93 (d 1 rfl)]) rfl, trivial⟩ ?_
 clear b49_0 b49_1 b49_2 b49_3 b49_4 b49_5 b49_6 fB49 hB50 hK60 hg50 k49_1 k49_10 k49_110 k49_111 k49_12 k49_128 k49_129 k49_14 k49_2 k49_4 k49_5 k49_6 k49_68 k49_7 k49_74 k49_8 k49_9 k50_110 k50_111
 intro f51 s51 W51 hB51 g51 hg51
 have fB51 := hB51.f fB50
 have z51 := hB51.below.size
 have b51_0 := hB51.b b50_0
 have b51_1 := hB51.b b50_1
 have b51_2 := hB51.b b50_2
 have b51_3 := hB51.b b50_3
 have b51_4 := hB51.b b50_4
 have b51_5 := hB51.b b50_5
 have b51_6 := hB51.b b50_6
 have q41' := (q40'.below hB51.below)
 have k51_1 := kt hg51 1 k50_1
 have k51_2 := kt hg51 2 k50_2
 have k51_4 := kt hg51 4 k50_4
 have k51_5 := kt hg51 5 k50_5
 have k51_6 := kt hg51 6 k50_6
 have k51_7 := kt hg51 7 k50_7
 have k51_9 := kt hg51 9 k50_9
 have k51_10 := kt hg51 10 k50_10
 have k51_8 := kt hg51 8 k50_8
 have k51_128 := kt hg51 128 k50_128
 have k51_129 := kt hg51 129 k50_129
 have k51_12 := kt hg51 12 k50_12
 have k51_68 := kt hg51 68 k50_68
 have k51_14 := kt hg51 14 k50_14
 have k51_74 := kt hg51 74 k50_74
 have k51_13 := kt hg51 13 k50_13
 have k51_110 := kt hg51 110 (hB51.is 18)
 have k51_111 := kt hg51 111 (hB51.is 19)
 obtain ⟨W52, hW52⟩ : ∃ W', W' = W51.setRow bk3 #[.int .i64 r1, .int .i64 0, .int .i64 qq2] := ⟨_, rfl⟩
 refine tail_skip (o := _) rfl ⟨rfl, rfl⟩ (run_seg hW52 (fr_ev k51_111) (fr_ev k51_110) b51_3 rfl rfl rfl rfl) ?_
 obtain ⟨fB52, nb52, ot52, z52⟩ := seg_facts hW52 fB51 b51_3 (by omega)
 clear hW52
 have b52_0 := ot52 _ _ (by omega) b51_0
 have b52_1 := ot52 _ _ (by omega) b51_1
 have b52_2 := ot52 _ _ (by omega) b51_2
 have b52_4 := ot52 _ _ (by omega) b51_4
 have b52_5 := ot52 _ _ (by omega) b51_5
 have b52_6 := ot52 _ _ (by omega) b51_6
 have q42' := q41'.other ot52 (ownN_ne q41' b51_3) z52
 refine wpOps_end ?_
 refine inBlock_normal ?_
 refine hK59 _ _ ?_
 as_aux_lemma =>
 refine region_dk 3 [(75, 0), (76, 1), (14, 2)] [[], [0], [0, 1]] (rel [is (.int .i64 0),
   is (.int .i64 1),
   is (.int .i64 1)])
  ⟨is_k, is_k, is_k, trivial⟩
  ⟨fun f s W c d g i j a => opv rfl rfl (by simp [go_sem, a.e 14 ((i 2 14 rfl rfl).trans k51_14)]) rfl,
  fun f s W c d g i j a => opv rfl rfl (by simp [go_sem, a.e 75 (d 0 rfl), IntWalk.i64_in (1) (by omega)]) rfl,
  fun f s W c d g i j a => opv rfl rfl (by simp [go_sem, a.e 76 (d 1 rfl)]) rfl, trivial⟩ ?_
 clear b50_0 b50_1 b50_2 b50_3 b50_4 b50_5 b50_6 b51_0 b51_1 b51_2 b51_3 b51_4 b51_5 b51_6 fB50 fB51 hB51 hK59 hg51 k50_1 k50_10 k50_12 k50_128 k50_129 k50_13 k50_14 k50_2 k50_4 k50_5 k50_6 k50_68 k50_7 k50_74 k50_8 k50_9 k51_14 ot52
 intro f53 s53 W53 hB53 g53 hg53
 have fB53 := hB53.f fB52
 have z53 := hB53.below.size
 have b53_0 := hB53.b b52_0
 have b53_1 := hB53.b b52_1
 have b53_2 := hB53.b b52_2
 have b53_3 := hB53.b nb52
 have b53_4 := hB53.b b52_4
 have b53_5 := hB53.b b52_5
 have b53_6 := hB53.b b52_6
 have q43' := (q42'.below hB53.below)
 refine wpOps_end ?_
 have k53_1 := kt hg53 1 k51_1
 have k53_2 := kt hg53 2 k51_2
 have k53_4 := kt hg53 4 k51_4
 have k53_5 := kt hg53 5 k51_5
 have k53_6 := kt hg53 6 k51_6
 have k53_7 := kt hg53 7 k51_7
 have k53_9 := kt hg53 9 k51_9
 have k53_10 := kt hg53 10 k51_10
 have k53_8 := kt hg53 8 k51_8
 have k53_128 := kt hg53 128 k51_128
 have k53_129 := kt hg53 129 k51_129
 have k53_12 := kt hg53 12 k51_12
 have k53_68 := kt hg53 68 k51_68
 have k53_74 := kt hg53 74 k51_74
 have k53_13 := kt hg53 13 k51_13
 have k53_110 := kt hg53 110 k51_110
 have k53_111 := kt hg53 111 k51_111
 have k53_14 := kt hg53 14 (hB53.is 2)
 refine then_normal ?_
 rw [rounds_succ]
 clear b52_0 b52_1 b52_2 b52_4 b52_5 b52_6 fB52 hB53 hg53 k51_1 k51_10 k51_110 k51_111 k51_12 k51_128 k51_129 k51_13 k51_2 k51_4 k51_5 k51_6 k51_68 k51_7 k51_74 k51_8 k51_9 k53_74 nb52
 refine wp_seq_k fun K61 hK61 => ?_
 refine wp_seq_k fun K62 hK62 => ?_
 as_aux_lemma =>
 refine region_dk 2 [(73, 0), (74, 1)] [[], [0]] (rel [is (.int .i64 1),
   is (.bool true)])
  ⟨is_k, is_k, trivial⟩
  ⟨fun f s W c d g i j a => opv rfl rfl (by simp [go_sem, a.e 14 k53_14]) rfl,
  fun f s W c d g i j a => opv rfl rfl (by simp [go_sem, a.e 73 (d 0 rfl)]) rfl, trivial⟩ ?_
 intro f54 s54 W54 hB54 g54 hg54
 have fB54 := hB54.f fB53
 have z54 := hB54.below.size
 have b54_0 := hB54.b b53_0
 have b54_1 := hB54.b b53_1
 have b54_2 := hB54.b b53_2
 have b54_3 := hB54.b b53_3
 have b54_4 := hB54.b b53_4
 have b54_5 := hB54.b b53_5
 have b54_6 := hB54.b b53_6
 have q44' := (q43'.below hB54.below)
 refine hK62 _ _ ?_
 have k54_1 := kt hg54 1 k53_1
 have k54_2 := kt hg54 2 k53_2
 have k54_4 := kt hg54 4 k53_4
 have k54_5 := kt hg54 5 k53_5
 have k54_6 := kt hg54 6 k53_6
 have k54_7 := kt hg54 7 k53_7
 have k54_9 := kt hg54 9 k53_9
 have k54_10 := kt hg54 10 k53_10
 have k54_8 := kt hg54 8 k53_8
 have k54_128 := kt hg54 128 k53_128
 have k54_129 := kt hg54 129 k53_129
 have k54_12 := kt hg54 12 k53_12
 have k54_68 := kt hg54 68 k53_68
 have k54_13 := kt hg54 13 k53_13
 have k54_110 := kt hg54 110 k53_110
 have k54_111 := kt hg54 111 k53_111
 have k54_14 := kt hg54 14 k53_14
 have k54_74 := kt hg54 74 (hB54.is 1)
 clear b53_0 b53_1 b53_2 b53_3 b53_4 b53_5 b53_6 fB53 hB54 hK62 hg54 k53_1 k53_10 k53_110 k53_111 k53_12 k53_128 k53_129 k53_13 k53_14 k53_2 k53_4 k53_5 k53_6 k53_68 k53_7 k53_8 k53_9
 refine wp_cond_true ((fr_eval rfl).trans k54_74) ?_
 refine wp_skip ?_
 refine hK61 _ _ ?_
 clear hK61
 refine wp_seq_k fun K64 hK64 => ?_
 refine wp_block ?_
 refine wp_seq_k fun K65 hK65 => ?_
 as_aux_lemma =>
 refine region_dk 16 [(77, 0), (78, 1), (79, 2), (80, 3), (81, 4), (82, 5), (83, 6), (84, 7), (85, 8), (86, 9), (87, 10), (88, 11), (89, 12), (90, 13), (91, 14), (13, 15)] [[], [], [], [1, 2], [1, 2, 3], [1, 2, 3, 4], [], [1, 2, 3, 4, 5, 6], [1, 2, 3, 4, 5, 6, 7], [], [], [9, 10], [9, 10, 11], [1, 2, 3, 4, 5, 6, 7, 8, 9, 10, 11, 12], [0, 1, 2, 3, 4, 5, 6, 7, 8, 9, 10, 11, 12, 13], [0, 1, 2, 3, 4, 5, 6, 7, 8, 9, 10, 11, 12, 13, 14]] (rel [is (.int .i64 (2900 - al0)),
   is (.slice (some ⟨bk4, 0, none⟩) (2) (2)),
   is (.int .i64 1),
   is (.pointer (some ⟨bk4, 2, none⟩)),
   is (.pointer (some ⟨bk4, 2, none⟩)),
   is (.slice (some ⟨bk7, 0, none⟩) (3) (3)),
   is (.int .i64 1),
   is (.pointer (some ⟨bk7, 1, none⟩)),
   is (.int .i64 m1),
   is (.slice (ay) (3) (cy)),
   is (.int .i64 1),
   is (.pointer (some ⟨by_, oy_ + 1, none⟩)),
   is (.int .i64 al1),
   is (.int .i64 ma1),
   is (.int .i64 lf1),
   is (.int .i64 lf1)])
  ⟨is_k, is_k, is_k, is_k, is_k, is_k, is_k, is_k, is_k, is_k, is_k, is_k, is_k, is_k, is_k, is_k, trivial⟩
  ⟨fun f s W c d g i j a => opv rfl rfl (by simp [go_sem, a.e 13 ((i 15 13 rfl rfl).trans k54_13)]) rfl,
  fun f s W c d g i j a => opv rfl rfl (by simp [go_sem, a.e 10 k54_10]) rfl,
  fun f s W c d g i j a => opv rfl rfl (by simp [go_sem, a.e 12 k54_12]) rfl,
  fun f s W c d g i j a => opv rfl rfl (by simp [go_sem, a.e 78 (d 1 rfl), a.e 79 (d 2 rfl)]) rfl,
  fun f s W c d g i j a => opv rfl rfl (by simp [go_sem, a.e 80 (d 3 rfl)]) rfl,
  fun f s W c d g i j a => opv rfl rfl (by simp [go_sem, a.e 81 (d 4 rfl), cb b54_6 c 2]) rfl,
  fun f s W c d g i j a => opv rfl rfl (by simp [go_sem, a.e 14 k54_14]) rfl,
  fun f s W c d g i j a => opv rfl rfl (by simp [go_sem, a.e 82 (d 5 rfl), a.e 83 (d 6 rfl)]) rfl,
  fun f s W c d g i j a => opv rfl rfl (by simp [go_sem, a.e 84 (d 7 rfl), cb b54_5 c 1]) rfl,
  fun f s W c d g i j a => opv rfl rfl (by simp [go_sem, a.e 1 k54_1]) rfl,
  fun f s W c d g i j a => opv rfl rfl (by simp [go_sem, a.e 14 k54_14]) rfl,
  fun f s W c d g i j a => by have hab := (hY_ (by decide)).1; exact opv rfl rfl (by simp [go_sem, a.e 86 (d 9 rfl), a.e 87 (d 10 rfl), hab]) rfl,
  fun f s W c d g i j a => by have l := below_trans fB54 c; have cu_ : W.cell? ⟨by_, oy_ + 1, none⟩ = some (.int .i64 al1) := (hY_ (by decide)).2 W l 1 (by decide); exact opv rfl rfl (by simp [go_sem, a.e 88 (d 11 rfl), cu_]) rfl,
  fun f s W c d g i j a => by have rn_ : m1 * al1 = ma1 := hma1.out; have rm_ := IntWalk.i64_in ma1 (by omega); exact opv rfl rfl (by simp [go_sem, a.e 85 (d 8 rfl), a.e 89 (d 12 rfl), IntWalk.i64_in (m1 * al1) (by rw [hma1.out]; omega), rn_, rm_]) rfl,
  fun f s W c d g i j a => by have rn_ : (2900 - al0) - ma1 = lf1 := hlf1.out; have rm_ := IntWalk.i64_in lf1 (by omega); exact opv rfl rfl (by simp [go_sem, a.e 77 (d 0 rfl), a.e 90 (d 13 rfl), IntWalk.i64_in ((2900 - al0) - ma1) (by omega), rn_, rm_]) rfl,
  fun f s W c d g i j a => opv rfl rfl (by simp [go_sem, a.e 91 (d 14 rfl)]) rfl, trivial⟩ ?_
 clear k54_13
 intro f55 s55 W55 hB55 g55 hg55
 have fB55 := hB55.f fB54
 have z55 := hB55.below.size
 have b55_0 := hB55.b b54_0
 have b55_1 := hB55.b b54_1
 have b55_2 := hB55.b b54_2
 have b55_3 := hB55.b b54_3
 have b55_4 := hB55.b b54_4
 have b55_5 := hB55.b b54_5
 have b55_6 := hB55.b b54_6
 have q45' := (q44'.below hB55.below)
 refine hK65 _ _ ?_
 have k55_1 := kt hg55 1 k54_1
 have k55_2 := kt hg55 2 k54_2
 have k55_4 := kt hg55 4 k54_4
 have k55_5 := kt hg55 5 k54_5
 have k55_6 := kt hg55 6 k54_6
 have k55_7 := kt hg55 7 k54_7
 have k55_9 := kt hg55 9 k54_9
 have k55_10 := kt hg55 10 k54_10
 have k55_8 := kt hg55 8 k54_8
 have k55_128 := kt hg55 128 k54_128
 have k55_129 := kt hg55 129 k54_129
 have k55_12 := kt hg55 12 k54_12
 have k55_68 := kt hg55 68 k54_68
 have k55_110 := kt hg55 110 k54_110
 have k55_111 := kt hg55 111 k54_111
 have k55_14 := kt hg55 14 k54_14
 have k55_74 := kt hg55 74 k54_74
 have k55_13 := kt hg55 13 (hB55.is 15)
 as_aux_lemma =>
 refine region_dk 20 [(92, 0), (93, 1), (94, 2), (95, 3), (96, 4), (97, 5), (98, 6), (99, 7), (100, 8), (101, 9), (102, 10), (103, 11), (104, 12), (105, 13), (106, 14), (107, 15), (108, 16), (109, 17), (110, 18), (111, 19)] [[], [], [0, 1], [0, 1, 2], [], [], [4, 5], [4, 5, 6], [4, 5, 6, 7], [], [4, 5, 6, 7, 8, 9], [4, 5, 6, 7, 8, 9, 10], [], [], [12, 13], [12, 13, 14], [12, 13, 14, 15], [4, 5, 6, 7, 8, 9, 10, 11, 12, 13, 14, 15, 16], [0, 1, 2, 3, 4, 5, 6, 7, 8, 9, 10, 11, 12, 13, 14, 15, 16, 17], [0, 1, 2, 3, 4, 5, 6, 7, 8, 9, 10, 11, 12, 13, 14, 15, 16, 17, 18], [0, 1, 2, 3, 4, 5, 6, 7, 8, 9, 10, 11, 12, 13, 14, 15, 16, 17, 18, 19]] (rel [is (.slice (some ⟨bk3, 0, none⟩) (3) (3)),
   is (.int .i64 1),
   is (.pointer (some ⟨bk3, 1, none⟩)),
   is (.int .i64 0),
   is (.slice (some ⟨bk4, 0, none⟩) (2) (2)),
   is (.int .i64 1),
   is (.pointer (some ⟨bk4, 2, none⟩)),
   is (.pointer (some ⟨bk4, 2, none⟩)),
   is (.slice (some ⟨bk7, 0, none⟩) (3) (3)),
   is (.int .i64 1),
   is (.pointer (some ⟨bk7, 1, none⟩)),
   is (.int .i64 m1),
   is (.slice (some ⟨bk4, 0, none⟩) (2) (2)),
   is (.int .i64 1),
   is (.pointer (some ⟨bk4, 2, none⟩)),
   is (.pointer (some ⟨bk4, 3, none⟩)),
   is (.int .i64 r1),
   is (.int .i64 qq1),
   is (.int .i64 qq1),
   is (.pointer (some ⟨bk3, 1, none⟩))])
  ⟨is_k, is_k, is_k, is_k, is_k, is_k, is_k, is_k, is_k, is_k, is_k, is_k, is_k, is_k, is_k, is_k, is_k, is_k, is_k, is_k, trivial⟩
  ⟨fun f s W c d g i j a => opv rfl rfl (by simp [go_sem, a.e 9 k55_9]) rfl,
  fun f s W c d g i j a => opv rfl rfl (by simp [go_sem, a.e 14 k55_14]) rfl,
  fun f s W c d g i j a => opv rfl rfl (by simp [go_sem, a.e 92 (d 0 rfl), a.e 93 (d 1 rfl)]) rfl,
  fun f s W c d g i j a => opv rfl rfl (by simp [go_sem, a.e 94 (d 2 rfl), cb b55_3 c 1]) rfl,
  fun f s W c d g i j a => opv rfl rfl (by simp [go_sem, a.e 10 k55_10]) rfl,
  fun f s W c d g i j a => opv rfl rfl (by simp [go_sem, a.e 12 k55_12]) rfl,
  fun f s W c d g i j a => opv rfl rfl (by simp [go_sem, a.e 96 (d 4 rfl), a.e 97 (d 5 rfl)]) rfl,
  fun f s W c d g i j a => opv rfl rfl (by simp [go_sem, a.e 98 (d 6 rfl)]) rfl,
  fun f s W c d g i j a => opv rfl rfl (by simp [go_sem, a.e 99 (d 7 rfl), cb b55_6 c 2]) rfl,
  fun f s W c d g i j a => opv rfl rfl (by simp [go_sem, a.e 14 k55_14]) rfl,
  fun f s W c d g i j a => opv rfl rfl (by simp [go_sem, a.e 100 (d 8 rfl), a.e 101 (d 9 rfl)]) rfl,
  fun f s W c d g i j a => opv rfl rfl (by simp [go_sem, a.e 102 (d 10 rfl), cb b55_5 c 1]) rfl,
  fun f s W c d g i j a => opv rfl rfl (by simp [go_sem, a.e 10 k55_10]) rfl,
  fun f s W c d g i j a => opv rfl rfl (by simp [go_sem, a.e 12 k55_12]) rfl,
  fun f s W c d g i j a => opv rfl rfl (by simp [go_sem, a.e 104 (d 12 rfl), a.e 105 (d 13 rfl)]) rfl,
  fun f s W c d g i j a => opv rfl rfl (by simp [go_sem, a.e 106 (d 14 rfl)]) rfl,
  fun f s W c d g i j a => opv rfl rfl (by simp [go_sem, a.e 107 (d 15 rfl), cb b55_6 c 3]) rfl,
  fun f s W c d g i j a => by have rn_ : m1 * r1 = qq1 := hqq1.out; have rm_ := IntWalk.i64_in qq1 (by omega); exact opv rfl rfl (by simp [go_sem, a.e 103 (d 11 rfl), a.e 108 (d 16 rfl), IntWalk.i64_in (m1 * r1) (by rw [hqq1.out]; omega), rn_, rm_]) rfl,
  fun f s W c d g i j a => opv rfl rfl (by simp [go_sem, a.e 95 (d 3 rfl), a.e 109 (d 17 rfl), IntWalk.i64_in (qq1) (by omega)]) rfl,
  fun f s W c d g i j a => opv rfl rfl (by simp [go_sem, a.e 92 (d 0 rfl), a.e 93 (d 1 rfl)]) rfl, trivial⟩ ?_
 clear b54_0 b54_1 b54_2 b54_3 b54_4 b54_5 b54_6 fB54 hB55 hK65 hg55 k54_1 k54_10 k54_110 k54_111 k54_12 k54_128 k54_129 k54_14 k54_2 k54_4 k54_5 k54_6 k54_68 k54_7 k54_74 k54_8 k54_9 k55_110 k55_111
 intro f56 s56 W56 hB56 g56 hg56
 have fB56 := hB56.f fB55
 have z56 := hB56.below.size
 have b56_0 := hB56.b b55_0
 have b56_1 := hB56.b b55_1
 have b56_2 := hB56.b b55_2
 have b56_3 := hB56.b b55_3
 have b56_4 := hB56.b b55_4
 have b56_5 := hB56.b b55_5
 have b56_6 := hB56.b b55_6
 have q46' := (q45'.below hB56.below)
 have k56_1 := kt hg56 1 k55_1
 have k56_2 := kt hg56 2 k55_2
 have k56_4 := kt hg56 4 k55_4
 have k56_5 := kt hg56 5 k55_5
 have k56_6 := kt hg56 6 k55_6
 have k56_7 := kt hg56 7 k55_7
 have k56_9 := kt hg56 9 k55_9
 have k56_10 := kt hg56 10 k55_10
 have k56_8 := kt hg56 8 k55_8
 have k56_128 := kt hg56 128 k55_128
 have k56_129 := kt hg56 129 k55_129
 have k56_12 := kt hg56 12 k55_12
 have k56_68 := kt hg56 68 k55_68
 have k56_14 := kt hg56 14 k55_14
 have k56_74 := kt hg56 74 k55_74
 have k56_13 := kt hg56 13 k55_13
 have k56_110 := kt hg56 110 (hB56.is 18)
 have k56_111 := kt hg56 111 (hB56.is 19)
 obtain ⟨W57, hW57⟩ : ∃ W', W' = W56.setRow bk3 #[.int .i64 r1, .int .i64 qq1, .int .i64 qq2] := ⟨_, rfl⟩
 refine tail_skip (o := _) rfl ⟨rfl, rfl⟩ (run_seg hW57 (fr_ev k56_111) (fr_ev k56_110) b56_3 rfl rfl rfl rfl) ?_
 obtain ⟨fB57, nb57, ot57, z57⟩ := seg_facts hW57 fB56 b56_3 (by omega)
 clear hW57
 have b57_0 := ot57 _ _ (by omega) b56_0
 have b57_1 := ot57 _ _ (by omega) b56_1
 have b57_2 := ot57 _ _ (by omega) b56_2
 have b57_4 := ot57 _ _ (by omega) b56_4
 have b57_5 := ot57 _ _ (by omega) b56_5
 have b57_6 := ot57 _ _ (by omega) b56_6
 have q47' := q46'.other ot57 (ownN_ne q46' b56_3) z57
 refine wpOps_end ?_
 refine inBlock_normal ?_
 refine hK64 _ _ ?_
 as_aux_lemma =>
 refine region_dk 3 [(75, 0), (76, 1), (14, 2)] [[], [0], [0, 1]] (rel [is (.int .i64 1),
   is (.int .i64 2),
   is (.int .i64 2)])
  ⟨is_k, is_k, is_k, trivial⟩
  ⟨fun f s W c d g i j a => opv rfl rfl (by simp [go_sem, a.e 14 ((i 2 14 rfl rfl).trans k56_14)]) rfl,
  fun f s W c d g i j a => opv rfl rfl (by simp [go_sem, a.e 75 (d 0 rfl), IntWalk.i64_in (2) (by omega)]) rfl,
  fun f s W c d g i j a => opv rfl rfl (by simp [go_sem, a.e 76 (d 1 rfl)]) rfl, trivial⟩ ?_
 clear b55_0 b55_1 b55_2 b55_3 b55_4 b55_5 b55_6 b56_0 b56_1 b56_2 b56_3 b56_4 b56_5 b56_6 fB55 fB56 hB56 hK64 hg56 k55_1 k55_10 k55_12 k55_128 k55_129 k55_13 k55_14 k55_2 k55_4 k55_5 k55_6 k55_68 k55_7 k55_74 k55_8 k55_9 k56_14 ot57
 intro f58 s58 W58 hB58 g58 hg58
 have fB58 := hB58.f fB57
 have z58 := hB58.below.size
 have b58_0 := hB58.b b57_0
 have b58_1 := hB58.b b57_1
 have b58_2 := hB58.b b57_2
 have b58_3 := hB58.b nb57
 have b58_4 := hB58.b b57_4
 have b58_5 := hB58.b b57_5
 have b58_6 := hB58.b b57_6
 have q48' := (q47'.below hB58.below)
 refine wpOps_end ?_
 have k58_1 := kt hg58 1 k56_1
 have k58_2 := kt hg58 2 k56_2
 have k58_4 := kt hg58 4 k56_4
 have k58_5 := kt hg58 5 k56_5
 have k58_6 := kt hg58 6 k56_6
 have k58_7 := kt hg58 7 k56_7
 have k58_9 := kt hg58 9 k56_9
 have k58_10 := kt hg58 10 k56_10
 have k58_8 := kt hg58 8 k56_8
 have k58_128 := kt hg58 128 k56_128
 have k58_129 := kt hg58 129 k56_129
 have k58_12 := kt hg58 12 k56_12
 have k58_68 := kt hg58 68 k56_68
 have k58_74 := kt hg58 74 k56_74
 have k58_13 := kt hg58 13 k56_13
 have k58_110 := kt hg58 110 k56_110
 have k58_111 := kt hg58 111 k56_111
 have k58_14 := kt hg58 14 (hB58.is 2)
 refine then_normal ?_
 rw [rounds_succ]
 clear b57_0 b57_1 b57_2 b57_4 b57_5 b57_6 fB57 hB58 hg58 k56_1 k56_10 k56_110 k56_111 k56_12 k56_128 k56_129 k56_13 k56_2 k56_4 k56_5 k56_6 k56_68 k56_7 k56_74 k56_8 k56_9 k58_74 nb57
 refine wp_seq_k fun K66 hK66 => ?_
 refine wp_seq_k fun K67 hK67 => ?_
 as_aux_lemma =>
 refine region_dk 2 [(73, 0), (74, 1)] [[], [0]] (rel [is (.int .i64 2),
   is (.bool true)])
  ⟨is_k, is_k, trivial⟩
  ⟨fun f s W c d g i j a => opv rfl rfl (by simp [go_sem, a.e 14 k58_14]) rfl,
  fun f s W c d g i j a => opv rfl rfl (by simp [go_sem, a.e 73 (d 0 rfl)]) rfl, trivial⟩ ?_
 intro f59 s59 W59 hB59 g59 hg59
 have fB59 := hB59.f fB58
 have z59 := hB59.below.size
 have b59_0 := hB59.b b58_0
 have b59_1 := hB59.b b58_1
 have b59_2 := hB59.b b58_2
 have b59_3 := hB59.b b58_3
 have b59_4 := hB59.b b58_4
 have b59_5 := hB59.b b58_5
 have b59_6 := hB59.b b58_6
 have q49' := (q48'.below hB59.below)
 refine hK67 _ _ ?_
 have k59_1 := kt hg59 1 k58_1
 have k59_2 := kt hg59 2 k58_2
 have k59_4 := kt hg59 4 k58_4
 have k59_5 := kt hg59 5 k58_5
 have k59_6 := kt hg59 6 k58_6
 have k59_7 := kt hg59 7 k58_7
 have k59_9 := kt hg59 9 k58_9
 have k59_10 := kt hg59 10 k58_10
 have k59_8 := kt hg59 8 k58_8
 have k59_128 := kt hg59 128 k58_128
 have k59_129 := kt hg59 129 k58_129
 have k59_12 := kt hg59 12 k58_12
 have k59_68 := kt hg59 68 k58_68
 have k59_13 := kt hg59 13 k58_13
 have k59_110 := kt hg59 110 k58_110
 have k59_111 := kt hg59 111 k58_111
 have k59_14 := kt hg59 14 k58_14
 have k59_74 := kt hg59 74 (hB59.is 1)
 clear b58_0 b58_1 b58_2 b58_3 b58_4 b58_5 b58_6 fB58 hB59 hK67 hg59 k58_1 k58_10 k58_110 k58_111 k58_12 k58_128 k58_129 k58_13 k58_14 k58_2 k58_4 k58_5 k58_6 k58_68 k58_7 k58_8 k58_9
 refine wp_cond_true ((fr_eval rfl).trans k59_74) ?_
 refine wp_skip ?_
 refine hK66 _ _ ?_
 clear hK66
 refine wp_seq_k fun K69 hK69 => ?_
 refine wp_block ?_
 refine wp_seq_k fun K70 hK70 => ?_
 as_aux_lemma =>
 refine region_dk 16 [(77, 0), (78, 1), (79, 2), (80, 3), (81, 4), (82, 5), (83, 6), (84, 7), (85, 8), (86, 9), (87, 10), (88, 11), (89, 12), (90, 13), (91, 14), (13, 15)] [[], [], [], [1, 2], [1, 2, 3], [1, 2, 3, 4], [], [1, 2, 3, 4, 5, 6], [1, 2, 3, 4, 5, 6, 7], [], [], [9, 10], [9, 10, 11], [1, 2, 3, 4, 5, 6, 7, 8, 9, 10, 11, 12], [0, 1, 2, 3, 4, 5, 6, 7, 8, 9, 10, 11, 12, 13], [0, 1, 2, 3, 4, 5, 6, 7, 8, 9, 10, 11, 12, 13, 14]] (rel [is (.int .i64 lf1),
   is (.slice (some ⟨bk4, 0, none⟩) (2) (2)),
   is (.int .i64 1),
   is (.pointer (some ⟨bk4, 2, none⟩)),
   is (.pointer (some ⟨bk4, 2, none⟩)),
   is (.slice (some ⟨bk7, 0, none⟩) (3) (3)),
   is (.int .i64 2),
   is (.pointer (some ⟨bk7, 2, none⟩)),
   is (.int .i64 0),
   is (.slice (ay) (3) (cy)),
   is (.int .i64 2),
   is (.pointer (some ⟨by_, oy_ + 2, none⟩)),
   is (.int .i64 al2),
   is (.int .i64 0),
   is (.int .i64 lf1),
   is (.int .i64 lf1)])
  ⟨is_k, is_k, is_k, is_k, is_k, is_k, is_k, is_k, is_k, is_k, is_k, is_k, is_k, is_k, is_k, is_k, trivial⟩
  ⟨fun f s W c d g i j a => opv rfl rfl (by simp [go_sem, a.e 13 ((i 15 13 rfl rfl).trans k59_13)]) rfl,
  fun f s W c d g i j a => opv rfl rfl (by simp [go_sem, a.e 10 k59_10]) rfl,
  fun f s W c d g i j a => opv rfl rfl (by simp [go_sem, a.e 12 k59_12]) rfl,
  fun f s W c d g i j a => opv rfl rfl (by simp [go_sem, a.e 78 (d 1 rfl), a.e 79 (d 2 rfl)]) rfl,
  fun f s W c d g i j a => opv rfl rfl (by simp [go_sem, a.e 80 (d 3 rfl)]) rfl,
  fun f s W c d g i j a => opv rfl rfl (by simp [go_sem, a.e 81 (d 4 rfl), cb b59_6 c 2]) rfl,
  fun f s W c d g i j a => opv rfl rfl (by simp [go_sem, a.e 14 k59_14]) rfl,
  fun f s W c d g i j a => opv rfl rfl (by simp [go_sem, a.e 82 (d 5 rfl), a.e 83 (d 6 rfl)]) rfl,
  fun f s W c d g i j a => opv rfl rfl (by simp [go_sem, a.e 84 (d 7 rfl), cb b59_5 c 2]) rfl,
  fun f s W c d g i j a => opv rfl rfl (by simp [go_sem, a.e 1 k59_1]) rfl,
  fun f s W c d g i j a => opv rfl rfl (by simp [go_sem, a.e 14 k59_14]) rfl,
  fun f s W c d g i j a => by have hab := (hY_ (by decide)).1; exact opv rfl rfl (by simp [go_sem, a.e 86 (d 9 rfl), a.e 87 (d 10 rfl), hab]) rfl,
  fun f s W c d g i j a => by have l := below_trans fB59 c; have cu_ : W.cell? ⟨by_, oy_ + 2, none⟩ = some (.int .i64 al2) := (hY_ (by decide)).2 W l 2 (by decide); exact opv rfl rfl (by simp [go_sem, a.e 88 (d 11 rfl), cu_]) rfl,
  fun f s W c d g i j a => opv rfl rfl (by simp [go_sem, a.e 85 (d 8 rfl), a.e 89 (d 12 rfl), IntWalk.i64_in (0) (by omega)]) rfl,
  fun f s W c d g i j a => opv rfl rfl (by simp [go_sem, a.e 77 (d 0 rfl), a.e 90 (d 13 rfl), IntWalk.i64_in (lf1) (by omega)]) rfl,
  fun f s W c d g i j a => opv rfl rfl (by simp [go_sem, a.e 91 (d 14 rfl)]) rfl, trivial⟩ ?_
 clear k59_13
 intro f60 s60 W60 hB60 g60 hg60
 have fB60 := hB60.f fB59
 have z60 := hB60.below.size
 have b60_0 := hB60.b b59_0
 have b60_1 := hB60.b b59_1
 have b60_2 := hB60.b b59_2
 have b60_3 := hB60.b b59_3
 have b60_4 := hB60.b b59_4
 have b60_5 := hB60.b b59_5
 have b60_6 := hB60.b b59_6
 have q50' := (q49'.below hB60.below)
 refine hK70 _ _ ?_
 have k60_1 := kt hg60 1 k59_1
 have k60_2 := kt hg60 2 k59_2
 have k60_4 := kt hg60 4 k59_4
 have k60_5 := kt hg60 5 k59_5
 have k60_6 := kt hg60 6 k59_6
 have k60_7 := kt hg60 7 k59_7
 have k60_9 := kt hg60 9 k59_9
 have k60_10 := kt hg60 10 k59_10
 have k60_8 := kt hg60 8 k59_8
 have k60_128 := kt hg60 128 k59_128
 have k60_129 := kt hg60 129 k59_129
 have k60_12 := kt hg60 12 k59_12
 have k60_68 := kt hg60 68 k59_68
 have k60_110 := kt hg60 110 k59_110
 have k60_111 := kt hg60 111 k59_111
 have k60_14 := kt hg60 14 k59_14
 have k60_74 := kt hg60 74 k59_74
 have k60_13 := kt hg60 13 (hB60.is 15)
 as_aux_lemma =>
 refine region_dk 20 [(92, 0), (93, 1), (94, 2), (95, 3), (96, 4), (97, 5), (98, 6), (99, 7), (100, 8), (101, 9), (102, 10), (103, 11), (104, 12), (105, 13), (106, 14), (107, 15), (108, 16), (109, 17), (110, 18), (111, 19)] [[], [], [0, 1], [0, 1, 2], [], [], [4, 5], [4, 5, 6], [4, 5, 6, 7], [], [4, 5, 6, 7, 8, 9], [4, 5, 6, 7, 8, 9, 10], [], [], [12, 13], [12, 13, 14], [12, 13, 14, 15], [4, 5, 6, 7, 8, 9, 10, 11, 12, 13, 14, 15, 16], [0, 1, 2, 3, 4, 5, 6, 7, 8, 9, 10, 11, 12, 13, 14, 15, 16, 17], [0, 1, 2, 3, 4, 5, 6, 7, 8, 9, 10, 11, 12, 13, 14, 15, 16, 17, 18], [0, 1, 2, 3, 4, 5, 6, 7, 8, 9, 10, 11, 12, 13, 14, 15, 16, 17, 18, 19]] (rel [is (.slice (some ⟨bk3, 0, none⟩) (3) (3)),
   is (.int .i64 2),
   is (.pointer (some ⟨bk3, 2, none⟩)),
   is (.int .i64 qq2),
   is (.slice (some ⟨bk4, 0, none⟩) (2) (2)),
   is (.int .i64 1),
   is (.pointer (some ⟨bk4, 2, none⟩)),
   is (.pointer (some ⟨bk4, 2, none⟩)),
   is (.slice (some ⟨bk7, 0, none⟩) (3) (3)),
   is (.int .i64 2),
   is (.pointer (some ⟨bk7, 2, none⟩)),
   is (.int .i64 0),
   is (.slice (some ⟨bk4, 0, none⟩) (2) (2)),
   is (.int .i64 1),
   is (.pointer (some ⟨bk4, 2, none⟩)),
   is (.pointer (some ⟨bk4, 3, none⟩)),
   is (.int .i64 r1),
   is (.int .i64 0),
   is (.int .i64 qq2),
   is (.pointer (some ⟨bk3, 2, none⟩))])
  ⟨is_k, is_k, is_k, is_k, is_k, is_k, is_k, is_k, is_k, is_k, is_k, is_k, is_k, is_k, is_k, is_k, is_k, is_k, is_k, is_k, trivial⟩
  ⟨fun f s W c d g i j a => opv rfl rfl (by simp [go_sem, a.e 9 k60_9]) rfl,
  fun f s W c d g i j a => opv rfl rfl (by simp [go_sem, a.e 14 k60_14]) rfl,
  fun f s W c d g i j a => opv rfl rfl (by simp [go_sem, a.e 92 (d 0 rfl), a.e 93 (d 1 rfl)]) rfl,
  fun f s W c d g i j a => opv rfl rfl (by simp [go_sem, a.e 94 (d 2 rfl), cb b60_3 c 2]) rfl,
  fun f s W c d g i j a => opv rfl rfl (by simp [go_sem, a.e 10 k60_10]) rfl,
  fun f s W c d g i j a => opv rfl rfl (by simp [go_sem, a.e 12 k60_12]) rfl,
  fun f s W c d g i j a => opv rfl rfl (by simp [go_sem, a.e 96 (d 4 rfl), a.e 97 (d 5 rfl)]) rfl,
  fun f s W c d g i j a => opv rfl rfl (by simp [go_sem, a.e 98 (d 6 rfl)]) rfl,
  fun f s W c d g i j a => opv rfl rfl (by simp [go_sem, a.e 99 (d 7 rfl), cb b60_6 c 2]) rfl,
  fun f s W c d g i j a => opv rfl rfl (by simp [go_sem, a.e 14 k60_14]) rfl,
  fun f s W c d g i j a => opv rfl rfl (by simp [go_sem, a.e 100 (d 8 rfl), a.e 101 (d 9 rfl)]) rfl,
  fun f s W c d g i j a => opv rfl rfl (by simp [go_sem, a.e 102 (d 10 rfl), cb b60_5 c 2]) rfl,
  fun f s W c d g i j a => opv rfl rfl (by simp [go_sem, a.e 10 k60_10]) rfl,
  fun f s W c d g i j a => opv rfl rfl (by simp [go_sem, a.e 12 k60_12]) rfl,
  fun f s W c d g i j a => opv rfl rfl (by simp [go_sem, a.e 104 (d 12 rfl), a.e 105 (d 13 rfl)]) rfl,
  fun f s W c d g i j a => opv rfl rfl (by simp [go_sem, a.e 106 (d 14 rfl)]) rfl,
  fun f s W c d g i j a => opv rfl rfl (by simp [go_sem, a.e 107 (d 15 rfl), cb b60_6 c 3]) rfl,
  fun f s W c d g i j a => opv rfl rfl (by simp [go_sem, a.e 103 (d 11 rfl), a.e 108 (d 16 rfl), IntWalk.i64_in (0) (by omega)]) rfl,
  fun f s W c d g i j a => opv rfl rfl (by simp [go_sem, a.e 95 (d 3 rfl), a.e 109 (d 17 rfl), IntWalk.i64_in (qq2) (by omega)]) rfl,
  fun f s W c d g i j a => opv rfl rfl (by simp [go_sem, a.e 92 (d 0 rfl), a.e 93 (d 1 rfl)]) rfl, trivial⟩ ?_
 clear b59_0 b59_1 b59_2 b59_3 b59_4 b59_5 b59_6 fB59 hB60 hK70 hg60 k59_1 k59_10 k59_110 k59_111 k59_12 k59_128 k59_129 k59_14 k59_2 k59_4 k59_5 k59_6 k59_68 k59_7 k59_74 k59_8 k59_9 k60_110 k60_111
 intro f61 s61 W61 hB61 g61 hg61
 have fB61 := hB61.f fB60
 have z61 := hB61.below.size
 have b61_0 := hB61.b b60_0
 have b61_1 := hB61.b b60_1
 have b61_2 := hB61.b b60_2
 have b61_3 := hB61.b b60_3
 have b61_4 := hB61.b b60_4
 have b61_5 := hB61.b b60_5
 have b61_6 := hB61.b b60_6
 have q51' := (q50'.below hB61.below)
 have k61_1 := kt hg61 1 k60_1
 have k61_2 := kt hg61 2 k60_2
 have k61_4 := kt hg61 4 k60_4
 have k61_5 := kt hg61 5 k60_5
 have k61_6 := kt hg61 6 k60_6
 have k61_7 := kt hg61 7 k60_7
 have k61_9 := kt hg61 9 k60_9
 have k61_10 := kt hg61 10 k60_10
 have k61_8 := kt hg61 8 k60_8
 have k61_128 := kt hg61 128 k60_128
 have k61_129 := kt hg61 129 k60_129
 have k61_12 := kt hg61 12 k60_12
 have k61_68 := kt hg61 68 k60_68
 have k61_14 := kt hg61 14 k60_14
 have k61_74 := kt hg61 74 k60_74
 have k61_13 := kt hg61 13 k60_13
 have k61_110 := kt hg61 110 (hB61.is 18)
 have k61_111 := kt hg61 111 (hB61.is 19)
 obtain ⟨W62, hW62⟩ : ∃ W', W' = W61.setRow bk3 #[.int .i64 r1, .int .i64 qq1, .int .i64 qq2] := ⟨_, rfl⟩
 refine tail_skip (o := _) rfl ⟨rfl, rfl⟩ (run_seg hW62 (fr_ev k61_111) (fr_ev k61_110) b61_3 rfl rfl rfl rfl) ?_
 obtain ⟨fB62, nb62, ot62, z62⟩ := seg_facts hW62 fB61 b61_3 (by omega)
 clear hW62
 have b62_0 := ot62 _ _ (by omega) b61_0
 have b62_1 := ot62 _ _ (by omega) b61_1
 have b62_2 := ot62 _ _ (by omega) b61_2
 have b62_4 := ot62 _ _ (by omega) b61_4
 have b62_5 := ot62 _ _ (by omega) b61_5
 have b62_6 := ot62 _ _ (by omega) b61_6
 have q52' := q51'.other ot62 (ownN_ne q51' b61_3) z62
 refine wpOps_end ?_
 refine inBlock_normal ?_
 refine hK69 _ _ ?_
 as_aux_lemma =>
 refine region_dk 3 [(75, 0), (76, 1), (14, 2)] [[], [0], [0, 1]] (rel [is (.int .i64 2),
   is (.int .i64 3),
   is (.int .i64 3)])
  ⟨is_k, is_k, is_k, trivial⟩
  ⟨fun f s W c d g i j a => opv rfl rfl (by simp [go_sem, a.e 14 ((i 2 14 rfl rfl).trans k61_14)]) rfl,
  fun f s W c d g i j a => opv rfl rfl (by simp [go_sem, a.e 75 (d 0 rfl), IntWalk.i64_in (3) (by omega)]) rfl,
  fun f s W c d g i j a => opv rfl rfl (by simp [go_sem, a.e 76 (d 1 rfl)]) rfl, trivial⟩ ?_
 clear b60_0 b60_1 b60_2 b60_3 b60_4 b60_5 b60_6 b61_0 b61_1 b61_2 b61_3 b61_4 b61_5 b61_6 fB60 fB61 hB61 hK69 hg61 k60_1 k60_10 k60_12 k60_128 k60_129 k60_13 k60_14 k60_2 k60_4 k60_5 k60_6 k60_68 k60_7 k60_74 k60_8 k60_9 k61_14 ot62
 intro f63 s63 W63 hB63 g63 hg63
 have fB63 := hB63.f fB62
 have z63 := hB63.below.size
 have b63_0 := hB63.b b62_0
 have b63_1 := hB63.b b62_1
 have b63_2 := hB63.b b62_2
 have b63_3 := hB63.b nb62
 have b63_4 := hB63.b b62_4
 have b63_5 := hB63.b b62_5
 have b63_6 := hB63.b b62_6
 have q53' := (q52'.below hB63.below)
 refine wpOps_end ?_
 have k63_1 := kt hg63 1 k61_1
 have k63_2 := kt hg63 2 k61_2
 have k63_4 := kt hg63 4 k61_4
 have k63_5 := kt hg63 5 k61_5
 have k63_6 := kt hg63 6 k61_6
 have k63_7 := kt hg63 7 k61_7
 have k63_9 := kt hg63 9 k61_9
 have k63_10 := kt hg63 10 k61_10
 have k63_8 := kt hg63 8 k61_8
 have k63_128 := kt hg63 128 k61_128
 have k63_129 := kt hg63 129 k61_129
 have k63_12 := kt hg63 12 k61_12
 have k63_68 := kt hg63 68 k61_68
 have k63_74 := kt hg63 74 k61_74
 have k63_13 := kt hg63 13 k61_13
 have k63_110 := kt hg63 110 k61_110
 have k63_111 := kt hg63 111 k61_111
 have k63_14 := kt hg63 14 (hB63.is 2)
 refine then_normal ?_
 rw [rounds_succ]
 clear b62_0 b62_1 b62_2 b62_4 b62_5 b62_6 fB62 hB63 hg63 k61_1 k61_10 k61_110 k61_111 k61_12 k61_128 k61_129 k61_13 k61_2 k61_4 k61_5 k61_6 k61_68 k61_7 k61_74 k61_8 k61_9 k63_74 nb62
 refine wp_seq_k fun K71 hK71 => ?_
 clear hK71
 refine wp_seq_k fun K72 hK72 => ?_
 as_aux_lemma =>
 refine region_dk 2 [(73, 0), (74, 1)] [[], [0]] (rel [is (.int .i64 3),
   is (.bool false)])
  ⟨is_k, is_k, trivial⟩
  ⟨fun f s W c d g i j a => opv rfl rfl (by simp [go_sem, a.e 14 k63_14]) rfl,
  fun f s W c d g i j a => opv rfl rfl (by simp [go_sem, a.e 73 (d 0 rfl)]) rfl, trivial⟩ ?_
 intro f64 s64 W64 hB64 g64 hg64
 have fB64 := hB64.f fB63
 have z64 := hB64.below.size
 have b64_0 := hB64.b b63_0
 have b64_1 := hB64.b b63_1
 have b64_2 := hB64.b b63_2
 have b64_3 := hB64.b b63_3
 have b64_4 := hB64.b b63_4
 have b64_5 := hB64.b b63_5
 have b64_6 := hB64.b b63_6
 have q54' := (q53'.below hB64.below)
 refine hK72 _ _ ?_
 have k64_1 := kt hg64 1 k63_1
 have k64_2 := kt hg64 2 k63_2
 have k64_4 := kt hg64 4 k63_4
 have k64_5 := kt hg64 5 k63_5
 have k64_6 := kt hg64 6 k63_6
 have k64_7 := kt hg64 7 k63_7
 have k64_9 := kt hg64 9 k63_9
 have k64_10 := kt hg64 10 k63_10
 have k64_8 := kt hg64 8 k63_8
 have k64_128 := kt hg64 128 k63_128
 have k64_129 := kt hg64 129 k63_129
 have k64_12 := kt hg64 12 k63_12
 have k64_68 := kt hg64 68 k63_68
 have k64_13 := kt hg64 13 k63_13
 have k64_110 := kt hg64 110 k63_110
 have k64_111 := kt hg64 111 k63_111
 have k64_14 := kt hg64 14 k63_14
 have k64_74 := kt hg64 74 (hB64.is 1)
 clear b63_0 b63_1 b63_2 b63_3 b63_4 b63_5 b63_6 fB63 hB64 hK72 hg64 k63_1 k63_10 k63_110 k63_111 k63_12 k63_128 k63_129 k63_13 k63_14 k63_2 k63_4 k63_5 k63_6 k63_68 k63_7 k63_8 k63_9 k64_128 k64_129
 refine wp_cond_false ((fr_eval rfl).trans k64_74) ?_
 refine wp_exit ?_
 refine then_exit ?_
 refine then_exit ?_
 refine inBlock_at ?_
 refine hK54 _ _ ?_
 as_aux_lemma =>
 refine region_dk 18 [(112, 0), (113, 1), (114, 2), (115, 3), (116, 4), (117, 5), (118, 6), (119, 7), (120, 8), (121, 9), (122, 10), (123, 11), (124, 12), (125, 13), (126, 14), (127, 15), (128, 16), (129, 17)] [[], [0], [0, 1], [], [0, 1, 2, 3], [0, 1, 2, 3, 4], [], [6], [6, 7], [], [], [10], [10, 11], [10, 11, 12], [9, 10, 11, 12, 13], [6, 7, 8, 9, 10, 11, 12, 13, 14], [0, 1, 2, 3, 4, 5, 6, 7, 8, 9, 10, 11, 12, 13, 14, 15], [0, 1, 2, 3, 4, 5, 6, 7, 8, 9, 10, 11, 12, 13, 14, 15, 16], [0, 1, 2, 3, 4, 5, 6, 7, 8, 9, 10, 11, 12, 13, 14, 15, 16, 17]] (rel [is (.pointer (some ⟨bk2, 1, none⟩)),
   is (.pointer (some ⟨bk2, 1, none⟩)),
   is (.int .i64 plo0),
   is (.int .i64 lf1),
   is (.int .i64 (min plo0 lf1)),
   is (.int .i64 (max 0 (min plo0 lf1))),
   is (.pointer (some ⟨bk2, 1, none⟩)),
   is (.pointer (some ⟨bk2, 2, none⟩)),
   is (.int .i64 phi0),
   is (.int .i64 lf1),
   is (.pointer (some ⟨bk0, 21, none⟩)),
   is (.int .u8 ((sv 21))),
   is (.int .i64 ((sv 21))),
   is (.int .i64 (((sv 21) % 20))),
   is (.int .i64 (lf1 + ((sv 21) % 20))),
   is (.int .i64 (max phi0 (lf1 + ((sv 21) % 20)))),
   is (.agg #[.int .i64 plo, .int .i64 phi]),
   is (.pointer (some ⟨bk2, 1, none⟩))])
  ⟨is_k, is_k, is_k, is_k, is_k, is_k, is_k, is_k, is_k, is_k, is_k, is_k, is_k, is_k, is_k, is_k, is_k, is_k, trivial⟩
  ⟨fun f s W c d g i j a => opv rfl rfl (by simp [go_sem, a.e 7 k64_7]) rfl,
  fun f s W c d g i j a => opv rfl rfl (by simp [go_sem, a.e 112 (d 0 rfl)]) rfl,
  fun f s W c d g i j a => opv rfl rfl (by simp [go_sem, a.e 113 (d 1 rfl), cb b64_2 c 1]) rfl,
  fun f s W c d g i j a => opv rfl rfl (by simp [go_sem, a.e 13 k64_13]) rfl,
  fun f s W c d g i j a => opv rfl rfl (by simp [go_sem, a.e 114 (d 2 rfl), a.e 115 (d 3 rfl)]) rfl,
  fun f s W c d g i j a => opv rfl rfl (by simp [go_sem, a.e 116 (d 4 rfl)]) rfl,
  fun f s W c d g i j a => opv rfl rfl (by simp [go_sem, a.e 7 k64_7]) rfl,
  fun f s W c d g i j a => opv rfl rfl (by simp [go_sem, a.e 118 (d 6 rfl)]) rfl,
  fun f s W c d g i j a => opv rfl rfl (by simp [go_sem, a.e 119 (d 7 rfl), cb b64_2 c 2]) rfl,
  fun f s W c d g i j a => opv rfl rfl (by simp [go_sem, a.e 13 k64_13]) rfl,
  fun f s W c d g i j a => opv rfl rfl (by simp [go_sem, a.e 2 k64_2]) rfl,
  fun f s W c d g i j a => opv rfl rfl (by simp [go_sem, a.e 122 (d 10 rfl), cb b64_0 c 21]) rfl,
  fun f s W c d g i j a => by have cv_ := IntWalk.i64_in (sv 21) (by omega); exact opv rfl rfl (by simp [go_sem, a.e 123 (d 11 rfl), cv_]) rfl,
  fun f s W c d g i j a => by have qu_ : ((sv 21)).tmod 20 = ((sv 21) % 20) := Int.tmod_eq_emod_of_nonneg (by omega); have qw_ := IntWalk.i64_in ((sv 21) % 20) (by omega); exact opv rfl rfl (by simp [go_sem, a.e 124 (d 12 rfl), qu_, qw_]) rfl,
  fun f s W c d g i j a => opv rfl rfl (by simp [go_sem, a.e 121 (d 9 rfl), a.e 125 (d 13 rfl), IntWalk.i64_in (lf1 + ((sv 21) % 20)) (by omega)]) rfl,
  fun f s W c d g i j a => opv rfl rfl (by simp [go_sem, a.e 120 (d 8 rfl), a.e 126 (d 14 rfl)]) rfl,
  fun f s W c d g i j a => opDo_call rfl rfl (by simp [go_sem, a.e 117 (d 5 rfl), a.e 127 (d 15 rfl)]) (pubSpan_any (max 0 (min plo0 lf1)) (max phi0 (lf1 + ((sv 21) % 20))) W) ((fun e W' h => by have h1 := h.1; rw [hplo.out, hphi.out] at h1; exact ⟨_, h1, h.2, rfl⟩)),
  fun f s W c d g i j a => opv rfl rfl (by simp [go_sem, a.e 7 k64_7]) rfl, trivial⟩ ?_
 clear hK54
 intro f65 s65 W65 hB65 g65 hg65
 have fB65 := hB65.f fB64
 have z65 := hB65.below.size
 have b65_0 := hB65.b b64_0
 have b65_1 := hB65.b b64_1
 have b65_2 := hB65.b b64_2
 have b65_3 := hB65.b b64_3
 have b65_4 := hB65.b b64_4
 have b65_5 := hB65.b b64_5
 have b65_6 := hB65.b b64_6
 have q55' := (q54'.below hB65.below)
 have k65_1 := kt hg65 1 k64_1
 have k65_2 := kt hg65 2 k64_2
 have k65_4 := kt hg65 4 k64_4
 have k65_5 := kt hg65 5 k64_5
 have k65_6 := kt hg65 6 k64_6
 have k65_7 := kt hg65 7 k64_7
 have k65_9 := kt hg65 9 k64_9
 have k65_10 := kt hg65 10 k64_10
 have k65_8 := kt hg65 8 k64_8
 have k65_12 := kt hg65 12 k64_12
 have k65_68 := kt hg65 68 k64_68
 have k65_13 := kt hg65 13 k64_13
 have k65_110 := kt hg65 110 k64_110
 have k65_111 := kt hg65 111 k64_111
 have k65_14 := kt hg65 14 k64_14
 have k65_74 := kt hg65 74 k64_74
 have k65_128 := kt hg65 128 (hB65.is 16)
 have k65_129 := kt hg65 129 (hB65.is 17)
 obtain ⟨W66, hW66⟩ : ∃ W', W' = W65.setRow bk2 #[.int .i64 2900, .int .i64 plo, .int .i64 phi, .int .i64 4] := ⟨_, rfl⟩
 refine tail_skip (o := _) rfl ⟨rfl, rfl⟩ (run_seg hW66 (fr_ev k65_129) (fr_ev k65_128) b65_2 rfl rfl rfl rfl) ?_
 obtain ⟨fB66, nb66, ot66, z66⟩ := seg_facts hW66 fB65 b65_2 (by omega)
 clear hW66
 have b66_0 := ot66 _ _ (by omega) b65_0
 have b66_1 := ot66 _ _ (by omega) b65_1
 have b66_3 := ot66 _ _ (by omega) b65_3
 have b66_4 := ot66 _ _ (by omega) b65_4
 have b66_5 := ot66 _ _ (by omega) b65_5
 have b66_6 := ot66 _ _ (by omega) b65_6
 have q56' := q55'.other ot66 (ownN_ne q55' b65_2) z66
 refine wpOps_end ?_
 refine inBlock_normal ?_
 refine hK52 _ _ ?_
 as_aux_lemma =>
 refine region_dk 3 [(69, 0), (70, 1), (12, 2)] [[], [0], [0, 1]] (rel [is (.int .i64 1),
   is (.int .i64 2),
   is (.int .i64 2)])
  ⟨is_k, is_k, is_k, trivial⟩
  ⟨fun f s W c d g i j a => opv rfl rfl (by simp [go_sem, a.e 12 ((i 2 12 rfl rfl).trans k65_12)]) rfl,
  fun f s W c d g i j a => opv rfl rfl (by simp [go_sem, a.e 69 (d 0 rfl), IntWalk.i64_in (2) (by omega)]) rfl,
  fun f s W c d g i j a => opv rfl rfl (by simp [go_sem, a.e 70 (d 1 rfl)]) rfl, trivial⟩ ?_
 clear b64_0 b64_1 b64_2 b64_3 b64_4 b64_5 b64_6 b65_0 b65_1 b65_2 b65_3 b65_4 b65_5 b65_6 fB64 fB65 hB65 hK52 hg65 k64_1 k64_10 k64_110 k64_111 k64_12 k64_13 k64_14 k64_2 k64_4 k64_5 k64_6 k64_68 k64_7 k64_74 k64_8 k64_9 k65_12 ot66
 intro f67 s67 W67 hB67 g67 hg67
 have fB67 := hB67.f fB66
 have z67 := hB67.below.size
 have b67_0 := hB67.b b66_0
 have b67_1 := hB67.b b66_1
 have b67_2 := hB67.b nb66
 have b67_3 := hB67.b b66_3
 have b67_4 := hB67.b b66_4
 have b67_5 := hB67.b b66_5
 have b67_6 := hB67.b b66_6
 have q57' := (q56'.below hB67.below)
 refine wpOps_end ?_
 have k67_1 := kt hg67 1 k65_1
 have k67_2 := kt hg67 2 k65_2
 have k67_4 := kt hg67 4 k65_4
 have k67_5 := kt hg67 5 k65_5
 have k67_6 := kt hg67 6 k65_6
 have k67_7 := kt hg67 7 k65_7
 have k67_9 := kt hg67 9 k65_9
 have k67_10 := kt hg67 10 k65_10
 have k67_8 := kt hg67 8 k65_8
 have k67_68 := kt hg67 68 k65_68
 have k67_13 := kt hg67 13 k65_13
 have k67_110 := kt hg67 110 k65_110
 have k67_111 := kt hg67 111 k65_111
 have k67_14 := kt hg67 14 k65_14
 have k67_74 := kt hg67 74 k65_74
 have k67_128 := kt hg67 128 k65_128
 have k67_129 := kt hg67 129 k65_129
 have k67_12 := kt hg67 12 (hB67.is 2)
 refine then_normal ?_
 rw [rounds_succ]
 clear b66_0 b66_1 b66_3 b66_4 b66_5 b66_6 fB66 hB67 hg67 k65_1 k65_10 k65_110 k65_111 k65_128 k65_129 k65_13 k65_14 k65_2 k65_4 k65_5 k65_6 k65_68 k65_7 k65_74 k65_8 k65_9 k67_68 nb66
 refine wp_seq_k fun K74 hK74 => ?_
 clear hK74
 refine wp_seq_k fun K75 hK75 => ?_
 as_aux_lemma =>
 refine region_dk 4 [(65, 0), (66, 1), (67, 2), (68, 3)] [[], [], [1], [0, 1, 2]] (rel [is (.int .i64 2),
   is (.slice (some ⟨bk4, 0, none⟩) (2) (2)),
   is (.int .i64 2),
   is (.bool false)])
  ⟨is_k, is_k, is_k, is_k, trivial⟩
  ⟨fun f s W c d g i j a => opv rfl rfl (by simp [go_sem, a.e 12 k67_12]) rfl,
  fun f s W c d g i j a => opv rfl rfl (by simp [go_sem, a.e 10 k67_10]) rfl,
  fun f s W c d g i j a => opv rfl rfl (by simp [go_sem, a.e 66 (d 1 rfl)]) rfl,
  fun f s W c d g i j a => opv rfl rfl (by simp [go_sem, a.e 65 (d 0 rfl), a.e 67 (d 2 rfl)]) rfl, trivial⟩ ?_
 intro f68 s68 W68 hB68 g68 hg68
 have fB68 := hB68.f fB67
 have z68 := hB68.below.size
 have b68_0 := hB68.b b67_0
 have b68_1 := hB68.b b67_1
 have b68_2 := hB68.b b67_2
 have b68_3 := hB68.b b67_3
 have b68_4 := hB68.b b67_4
 have b68_5 := hB68.b b67_5
 have b68_6 := hB68.b b67_6
 have q58' := (q57'.below hB68.below)
 refine hK75 _ _ ?_
 have k68_1 := kt hg68 1 k67_1
 have k68_2 := kt hg68 2 k67_2
 have k68_4 := kt hg68 4 k67_4
 have k68_5 := kt hg68 5 k67_5
 have k68_6 := kt hg68 6 k67_6
 have k68_7 := kt hg68 7 k67_7
 have k68_9 := kt hg68 9 k67_9
 have k68_10 := kt hg68 10 k67_10
 have k68_8 := kt hg68 8 k67_8
 have k68_13 := kt hg68 13 k67_13
 have k68_110 := kt hg68 110 k67_110
 have k68_111 := kt hg68 111 k67_111
 have k68_14 := kt hg68 14 k67_14
 have k68_74 := kt hg68 74 k67_74
 have k68_128 := kt hg68 128 k67_128
 have k68_129 := kt hg68 129 k67_129
 have k68_12 := kt hg68 12 k67_12
 have k68_68 := kt hg68 68 (hB68.is 3)
 clear b67_0 b67_1 b67_2 b67_3 b67_4 b67_5 b67_6 fB67 hB68 hK75 hg68 k67_1 k67_10 k67_110 k67_111 k67_12 k67_128 k67_129 k67_13 k67_14 k67_2 k67_4 k67_5 k67_6 k67_7 k67_74 k67_8 k67_9 k68_1 k68_110 k68_111 k68_12 k68_128 k68_129 k68_13 k68_14 k68_74
 refine wp_cond_false ((fr_eval rfl).trans k68_68) ?_
 clear k68_68
 refine wp_exit ?_
 refine then_exit ?_
 refine then_exit ?_
 refine inBlock_at ?_
 refine hK22 _ _ ?_
 exact pubRun_any_c18 sv ay cy al0 al1 al2 m1 m2 r0 r1 ma1 ma2 lf0 lf1 qq1 qq2 plo0 phi0 plo phi nl0 nl1 nl2 nh0 nh1 nh2 w hY gsv gal0 gal1 gal2 hm2 hr0 hm1 hr1 hma1 hma2 gma1 gma2 hlf0 hlf1 hqq1 hqq2 gqq1 gqq2 gm1 gm2 gr0 gr1 glf0 glf1 gp0 gp1 gn0 gn1 gn2 hplo0 hphi0 hplo hphi hnl0 hnh0 hnl1 hnh1 hnl2 hnh2 g68 W68 bk0 bk1 bk2 bk3 bk4 ga19 ca19 bk6 bk7 k68_2 k68_4 k68_5 k68_6 k68_7 k68_9 k68_10 k68_8 fB68 b68_0 b68_1 b68_2 b68_3 b68_4 b68_5 b68_6 q58' (by omega) (by omega) (by omega) (by omega) (by omega) (by omega) (by omega) (by omega) (by omega) (by omega) (by omega) (by omega) (by omega) (by omega) (by omega) (by omega) (by omega) (by omega) (by omega) (by omega) (by omega) (by omega) (by omega) (by omega) (by omega) (by omega) (by omega) (by omega)
set_option maxRecDepth 100000 in
set_option maxHeartbeats 40000000 in
theorem pubRun_any (sv : Nat → Int) (ay : Option Addr) (cy : Nat) (al0 al1 al2 m1 m2 r0 r1 ma1 ma2 lf0 lf1 qq1 qq2 plo0 phi0 plo phi nl0 nl1 nl2 nh0 nh1 nh2 : Int) (w : World) (hY : Ii w ay 3 cy [al0, al1, al2]) (gsv : ∀ k, 0 ≤ sv k ∧ sv k ≤ 255) (gal0 : 1 ≤ al0 ∧ al0 ≤ 1000) (gal1 : 1 ≤ al1 ∧ al1 ≤ 1000) (gal2 : 1 ≤ al2 ∧ al2 ≤ 1000) (hm2 : HidE (1 + ((sv 22) % 2)) m2) (hr0 : HidE (1 + ((sv 23) % 9)) r0) (hm1 : HidE (1 + ((sv 25) % 2)) m1) (hr1 : HidE (1 + ((sv 26) % 9)) r1) (hma1 : HidE (m1 * al1) ma1) (hma2 : HidE (m2 * al2) ma2) (gma1 : 0 ≤ ma1 ∧ ma1 ≤ 2000) (gma2 : 0 ≤ ma2 ∧ ma2 ≤ 2000) (hlf0 : HidE (2900 - ma2) lf0) (hlf1 : HidE ((2900 - al0) - ma1) lf1) (hqq1 : HidE (m1 * r1) qq1) (hqq2 : HidE (m2 * r0) qq2) (gqq1 : 0 ≤ qq1 ∧ qq1 ≤ 20) (gqq2 : 0 ≤ qq2 ∧ qq2 ≤ 20) (gm1 : 1 ≤ m1 ∧ m1 ≤ 2) (gm2 : 1 ≤ m2 ∧ m2 ≤ 2) (gr0 : 1 ≤ r0 ∧ r0 ≤ 9) (gr1 : 1 ≤ r1 ∧ r1 ≤ 9) (glf0 : 0 ≤ lf0 ∧ lf0 ≤ 2900) (glf1 : -1000 ≤ lf1 ∧ lf1 ≤ 2900) (gp0 : 0 ≤ plo0 ∧ plo0 ≤ phi0 ∧ phi0 ≤ 3000) (gp1 : 0 ≤ plo ∧ plo ≤ phi ∧ phi ≤ 3000) (gn0 : 0 ≤ nl0 ∧ nl0 ≤ nh0 ∧ nh0 ≤ 30) (gn1 : 0 ≤ nl1 ∧ nl1 ≤ nh1 ∧ nh1 ≤ 30) (gn2 : 0 ≤ nl2 ∧ nl2 ≤ nh2 ∧ nh2 ≤ 30) (hplo0 : HidE (max 0 (min 3000 lf0)) plo0) (hphi0 : HidE (max 0 (lf0 + ((sv 21) % 20))) phi0) (hplo : HidE (max 0 (min plo0 lf1)) plo) (hphi : HidE (max phi0 (lf1 + ((sv 21) % 20))) phi) (hnl0 : HidE (max 0 (r1 - ((sv 28) % 2))) nl0) (hnh0 : HidE (r1 + (((sv 28) / 2) % 2)) nh0) (hnl1 : HidE (max 0 (qq1 - ((sv 29) % 2))) nl1) (hnh1 : HidE (qq1 + (((sv 29) / 2) % 2)) nh1) (hnl2 : HidE (max 0 (qq2 - ((sv 30) % 2))) nl2) (hnh2 : HidE (qq2 + (((sv 30) / 2) % 2)) nh2) :
  Calls Try.prog 8 #[.agg #[.int .u8 ((sv 0)), .int .u8 ((sv 1)), .int .u8 ((sv 2)), .int .u8 ((sv 3)), .int .u8 ((sv 4)), .int .u8 ((sv 5)), .int .u8 ((sv 6)), .int .u8 ((sv 7)), .int .u8 ((sv 8)), .int .u8 ((sv 9)), .int .u8 ((sv 10)), .int .u8 ((sv 11)), .int .u8 ((sv 12)), .int .u8 ((sv 13)), .int .u8 ((sv 14)), .int .u8 ((sv 15)), .int .u8 ((sv 16)), .int .u8 ((sv 17)), .int .u8 ((sv 18)), .int .u8 ((sv 19)), .int .u8 ((sv 20)), .int .u8 ((sv 21)), .int .u8 ((sv 22)), .int .u8 ((sv 23)), .int .u8 ((sv 24)), .int .u8 ((sv 25)), .int .u8 ((sv 26)), .int .u8 ((sv 27)), .int .u8 ((sv 28)), .int .u8 ((sv 29)), .int .u8 ((sv 30))], .slice (ay) (3) (cy)] w (fun e w' => ∃ v2 v3, e = .returned (.tuple #[.agg #[.int .i64 2900, .int .i64 plo, .int .i64 phi, .int .i64 4], v2, v3]) ∧ IsOrdS 35 3 (osR al0 al1 al2 nl0 nl1 nl2 nh0 nh1 nh2) v2 w' ∧ IsPlanS 35 2 (xsR m1 m2 r0 r1) v3 w' ∧ Below w.heap.size w w') := by
 obtain ⟨by_, oy_, hY_⟩ := hY.open
 have gs21 := gsv 21
 have gs22 := gsv 22
 have gs23 := gsv 23
 have gs25 := gsv 25
 have gs26 := gsv 26
 have gs28 := gsv 28
 have gs29 := gsv 29
 have gs30 := gsv 30
 refine calls_fr Try.func8 Try.ntmps8 rfl rfl fun g hg => ?_
 have k0 : g 0 = .agg #[.int .u8 ((sv 0)), .int .u8 ((sv 1)), .int .u8 ((sv 2)), .int .u8 ((sv 3)), .int .u8 ((sv 4)), .int .u8 ((sv 5)), .int .u8 ((sv 6)), .int .u8 ((sv 7)), .int .u8 ((sv 8)), .int .u8 ((sv 9)), .int .u8 ((sv 10)), .int .u8 ((sv 11)), .int .u8 ((sv 12)), .int .u8 ((sv 13)), .int .u8 ((sv 14)), .int .u8 ((sv 15)), .int .u8 ((sv 16)), .int .u8 ((sv 17)), .int .u8 ((sv 18)), .int .u8 ((sv 19)), .int .u8 ((sv 20)), .int .u8 ((sv 21)), .int .u8 ((sv 22)), .int .u8 ((sv 23)), .int .u8 ((sv 24)), .int .u8 ((sv 25)), .int .u8 ((sv 26)), .int .u8 ((sv 27)), .int .u8 ((sv 28)), .int .u8 ((sv 29)), .int .u8 ((sv 30))] := hg 0
 have k1 : g 1 = .slice (ay) (3) (cy) := hg 1
 clear hg
 have fB0 : Below w.heap.size w w := Below.refl _ _
 refine wp_seq_k fun K1 hK1 => ?_
 as_aux_lemma =>
 refine region_dk 4 [(2, 0), (4, 1), (5, 2), (6, 3)] [[], [], [], [2]] (rel [bx 0 #[.int .u8 ((sv 0)), .int .u8 ((sv 1)), .int .u8 ((sv 2)), .int .u8 ((sv 3)), .int .u8 ((sv 4)), .int .u8 ((sv 5)), .int .u8 ((sv 6)), .int .u8 ((sv 7)), .int .u8 ((sv 8)), .int .u8 ((sv 9)), .int .u8 ((sv 10)), .int .u8 ((sv 11)), .int .u8 ((sv 12)), .int .u8 ((sv 13)), .int .u8 ((sv 14)), .int .u8 ((sv 15)), .int .u8 ((sv 16)), .int .u8 ((sv 17)), .int .u8 ((sv 18)), .int .u8 ((sv 19)), .int .u8 ((sv 20)), .int .u8 ((sv 21)), .int .u8 ((sv 22)), .int .u8 ((sv 23)), .int .u8 ((sv 24)), .int .u8 ((sv 25)), .int .u8 ((sv 26)), .int .u8 ((sv 27)), .int .u8 ((sv 28)), .int .u8 ((sv 29)), .int .u8 ((sv 30))] 27,
   bx 1 #[.int .i64 0, .int .i64 0, .int .i64 0, .int .i64 0] 35,
   is (.slice (none) (0) (0)),
   is (.slice (none) (0) (0))])
  ⟨bx_k, bx_k, is_k, is_k, trivial⟩
  ⟨fun f s W c d i j l a => opb rfl rfl (by simp [go_sem, a.e 0 k0]),
  fun f s W c d i j l a => opb rfl rfl (by simp [go_sem]),
  fun f s W c d i j l a => opv rfl rfl (by simp [go_sem]) rfl,
  fun f s W c d i j l a => opv rfl rfl (by simp [go_sem]) rfl, trivial⟩ ?_
 intro f1 s1 W1 hB1 g1 hg1
 have fB1 := hB1.f fB0
 have z1 := hB1.below.size
 obtain ⟨r1_0, br1_0⟩ := hB1.is 0
 have lr1_0 := hB1.lr 0 br1_0
 obtain ⟨r1_1, br1_1⟩ := hB1.is 1
 have lr1_1 := hB1.lr 1 br1_1
 have ne1_0_1 := hB1.nb 0 1
 refine hK1 _ _ ?_
 have k1_1 := kt hg1 1 k1
 have k1_2 := kt hg1 2 r1_0
 have k1_4 := kt hg1 4 r1_1
 have k1_5 := kt hg1 5 (hB1.is 2)
 have k1_6 := kt hg1 6 (hB1.is 3)
 clear fB0 hB1 hK1 hg1 r1_0 r1_1
 refine wp_seq_k fun K2 hK2 => ?_
 as_aux_lemma =>
 refine region_dk 3 [(16, 0), (17, 1), (7, 2)] [[], [0], [], [0, 1, 2]] (rel [is (.agg #[.int .i64 3000, .int .i64 0]),
   is (.agg #[.int .i64 2900, .int .i64 3000, .int .i64 0, .int .i64 4]),
   bx 2 #[.int .i64 0, .int .i64 0, .int .i64 0, .int .i64 0] 35])
  ⟨is_k, is_k, bx_k, trivial⟩
  ⟨fun f s W c d i j l a => opc rfl rfl (by simp [go_sem]) (pubSpan_any (3000) (0) W),
  fun f s W c d i j l a => opv rfl rfl (by simp [go_sem, a.e 16 (d 0 rfl)]) rfl,
  fun f s W c d i j l a => opb rfl rfl (by simp [go_sem]), trivial⟩ ?_
 intro f2 s2 W2 hB2 g2 hg2
 have fB2 := hB2.f fB1
 have z2 := hB2.below.size
 have b2_0 := hB2.b br1_0
 have b2_1 := hB2.b br1_1
 obtain ⟨r2_2, br2_2⟩ := hB2.is 2
 have lr2_2 := hB2.lr 2 br2_2
 have k2_1 := kt hg2 1 k1_1
 have k2_2 := kt hg2 2 k1_2
 have k2_4 := kt hg2 4 k1_4
 have k2_5 := kt hg2 5 k1_5
 have k2_6 := kt hg2 6 k1_6
 have k2_17 := kt hg2 17 (hB2.is 1)
 have k2_7 := kt hg2 7 r2_2
 obtain ⟨W3, hW3⟩ : ∃ W', W' = W2.setRow (s2 2) #[.int .i64 2900, .int .i64 3000, .int .i64 0, .int .i64 4] := ⟨_, rfl⟩
 refine tail_skip (o := _) rfl ⟨rfl, rfl⟩ (run_seg hW3 (fr_ev k2_7) (fr_ev k2_17) br2_2 rfl rfl rfl rfl) ?_
 obtain ⟨fB3, nb3, ot3, z3⟩ := seg_facts hW3 fB2 br2_2 (by omega)
 clear hW3
 have b3_0 := ot3 _ _ (by omega) b2_0
 have b3_1 := ot3 _ _ (by omega) b2_1
 refine wpOps_end ?_
 refine hK2 _ _ ?_
 clear b2_0 b2_1 br1_0 br1_1 br2_2 fB1 fB2 hB2 hK2 hg2 k1_1 k1_2 k1_4 k1_5 k1_6 k2_17 ot3 r2_2
 refine wp_seq_k fun K3 hK3 => ?_
 as_aux_lemma =>
 refine region_dk 4 [(18, 0), (19, 1), (8, 2), (9, 3)] [[], [], [0], [0, 1, 2]] (rel [row 0 0 #[] 72,
   row 1 3 #[.int .i64 0, .int .i64 0, .int .i64 0] 3,
   isS fun s => .slice (some ⟨(s 0), 0, none⟩) (0) (0),
   isS fun s => .slice (some ⟨(s 1), 0, none⟩) (3) (3)])
  ⟨row_k, row_k, isS_k fun s s' e => by rw [e 0 (by simp)], isS_k fun s s' e => by rw [e 1 (by simp)], trivial⟩
  ⟨fun f s W c d i j l a => opr rfl rfl (by simp [go_sem]),
  fun f s W c d i j l a => opr rfl rfl (by simp [go_sem]),
  fun f s W c d i j l a => opv rfl rfl (by simp [go_sem, a.e 18 (d 0 rfl).1, upd]) rfl,
  fun f s W c d i j l a => opv rfl rfl (by simp [go_sem, a.e 19 (d 1 rfl).1, upd]) rfl, trivial⟩ ?_
 intro f4 s4 W4 hB4 g4 hg4
 have fB4 := hB4.f fB3
 have z4 := hB4.below.size
 have b4_0 := hB4.b b3_0
 have b4_1 := hB4.b b3_1
 have b4_2 := hB4.b nb3
 obtain ⟨r4_0, br4_0⟩ := hB4.is 0
 have lr4_0 := hB4.lr 0 br4_0
 obtain ⟨r4_1, br4_1⟩ := hB4.is 1
 have lr4_1 := hB4.lr 1 br4_1
 have ne4_0_1 := hB4.nb 0 1
 refine hK3 _ _ ?_
 have k4_1 := kt hg4 1 k2_1
 have k4_2 := kt hg4 2 k2_2
 have k4_4 := kt hg4 4 k2_4
 have k4_5 := kt hg4 5 k2_5
 have k4_6 := kt hg4 6 k2_6
 have k4_7 := kt hg4 7 k2_7
 have k4_8 := kt hg4 8 (hB4.is 2)
 have k4_9 := kt hg4 9 (hB4.is 3)
 obtain ⟨b0, hb0⟩ : ∃ b, (s4 0) = b := ⟨_, rfl⟩
 have on0 : OwnN 72 3 w.heap.size 0 [] (some ⟨b0, 0, none⟩) 0 W4 := .inr ⟨b0, rfl, ownR_empty (hb0 ▸ br4_0) (by rw [← hb0]; omega)⟩
 have k8_ : g4 8 = .slice (some ⟨b0, 0, none⟩) 0 0 := hb0 ▸ k4_8
 clear b3_0 b3_1 br4_0 fB3 hB4 hK3 hg4 k2_1 k2_2 k2_4 k2_5 k2_6 k2_7 k4_8 nb3 r4_0 r4_1
 refine wp_seq_k fun K4 hK4 => ?_
 as_aux_lemma =>
 refine region_dk 34 [(20, 0), (21, 1), (22, 2), (23, 3), (24, 4), (25, 5), (26, 6), (27, 7), (28, 8), (29, 9), (30, 10), (31, 11), (32, 12), (33, 13), (34, 14), (35, 15), (36, 16), (37, 17), (38, 18), (39, 19), (40, 20), (41, 21), (42, 22), (43, 23), (44, 24), (45, 25), (46, 26), (47, 27), (48, 28), (49, 29), (50, 30), (51, 31), (52, 32), (10, 33)] [[], [0], [0, 1], [0, 1, 2], [0, 1, 2, 3], [0, 1, 2, 3, 4], [0, 1, 2, 3, 4, 5], [0, 1, 2, 3, 4, 5, 6], [], [8], [8, 9], [8, 9, 10], [8, 9, 10, 11], [8, 9, 10, 11, 12], [8, 9, 10, 11, 12, 13], [0, 1, 2, 3, 4, 5, 6, 7, 8, 9, 10, 11, 12, 13, 14], [], [16], [16, 17], [16, 17, 18], [16, 17, 18, 19], [16, 17, 18, 19, 20], [16, 17, 18, 19, 20, 21], [16, 17, 18, 19, 20, 21, 22], [], [24], [24, 25], [24, 25, 26], [24, 25, 26, 27], [24, 25, 26, 27, 28], [24, 25, 26, 27, 28, 29], [16, 17, 18, 19, 20, 21, 22, 23, 24, 25, 26, 27, 28, 29, 30], [0, 1, 2, 3, 4, 5, 6, 7, 8, 9, 10, 11, 12, 13, 14, 15, 16, 17, 18, 19, 20, 21, 22, 23, 24, 25, 26, 27, 28, 29, 30, 31], [0, 1, 2, 3, 4, 5, 6, 7, 8, 9, 10, 11, 12, 13, 14, 15, 16, 17, 18, 19, 20, 21, 22, 23, 24, 25, 26, 27, 28, 29, 30, 31, 32]] (rel [is (.pointer (some ⟨(s1 0), 22, none⟩)),
   is (.pointer (some ⟨(s1 0), 22, none⟩)),
   is (.pointer (some ⟨(s1 0), 22, none⟩)),
   is (.int .u8 ((sv 22))),
   is (.int .i64 ((sv 22))),
   is (.int .i64 (((sv 22) % 2))),
   is (.int .i64 m2),
   row 7 3 #[.int .i64 0, .int .i64 0, .int .i64 m2] 3,
   is (.pointer (some ⟨(s1 0), 22, none⟩)),
   is (.pointer (some ⟨(s1 0), 22, none⟩)),
   is (.pointer (some ⟨(s1 0), 23, none⟩)),
   is (.int .u8 ((sv 23))),
   is (.int .i64 ((sv 23))),
   is (.int .i64 (((sv 23) % 9))),
   is (.int .i64 r0),
   isS fun s => .agg #[.slice (some ⟨(s 7), 0, none⟩) (3) (3), .int .i64 r0],
   is (.pointer (some ⟨(s1 0), 22, none⟩)),
   is (.pointer (some ⟨(s1 0), 25, none⟩)),
   is (.pointer (some ⟨(s1 0), 25, none⟩)),
   is (.int .u8 ((sv 25))),
   is (.int .i64 ((sv 25))),
   is (.int .i64 (((sv 25) % 2))),
   is (.int .i64 m1),
   row 23 3 #[.int .i64 1, .int .i64 m1, .int .i64 0] 3,
   is (.pointer (some ⟨(s1 0), 22, none⟩)),
   is (.pointer (some ⟨(s1 0), 25, none⟩)),
   is (.pointer (some ⟨(s1 0), 26, none⟩)),
   is (.int .u8 ((sv 26))),
   is (.int .i64 ((sv 26))),
   is (.int .i64 (((sv 26) % 9))),
   is (.int .i64 r1),
   isS fun s => .agg #[.slice (some ⟨(s 23), 0, none⟩) (3) (3), .int .i64 r1],
   fun v s W => v = .slice (some ⟨(s 32), 0, none⟩) (2) (2) ∧ W.heap[(s 32)]? = some (.cells #[.slice (some ⟨(s 7), 0, none⟩) (3) (3), .int .i64 r0, .slice (some ⟨(s 23), 0, none⟩) (3) (3), .int .i64 r1] 70 (0, 0)),
   isS fun s => .slice (some ⟨(s 32), 0, none⟩) (2) (2)])
  ⟨is_k, is_k, is_k, is_k, is_k, is_k, is_k, row_k, is_k, is_k, is_k, is_k, is_k, is_k, is_k, isS_k fun s s' e => by rw [e 7 (by simp)], is_k, is_k, is_k, is_k, is_k, is_k, is_k, row_k, is_k, is_k, is_k, is_k, is_k, is_k, is_k, isS_k fun s s' e => by rw [e 23 (by simp)], ⟨fun v k W W' hb h => ⟨h.1, blk_below h.2 hb⟩, fun v s s' W e h => by have h' : v = .slice (some ⟨(s 32), 0, none⟩) (2) (2) ∧ W.heap[(s 32)]? = some (.cells #[.slice (some ⟨(s 7), 0, none⟩) (3) (3), .int .i64 r0, .slice (some ⟨(s 23), 0, none⟩) (3) (3), .int .i64 r1] 70 (0, 0)) := h; show v = .slice (some ⟨(s' 32), 0, none⟩) (2) (2) ∧ W.heap[(s' 32)]? = some (.cells #[.slice (some ⟨(s' 7), 0, none⟩) (3) (3), .int .i64 r0, .slice (some ⟨(s' 23), 0, none⟩) (3) (3), .int .i64 r1] 70 (0, 0)); rw [← e 7 (by simp), ← e 23 (by simp), ← e 32 (by simp)]; exact h'⟩, isS_k fun s s' e => by rw [e 32 (by simp)], trivial⟩
  ⟨fun f s W c d i j l a => opv rfl rfl (by simp [go_sem, a.e 2 k4_2]) rfl,
  fun f s W c d i j l a => opv rfl rfl (by simp [go_sem, a.e 20 (d 0 rfl)]) rfl,
  fun f s W c d i j l a => opv rfl rfl (by simp [go_sem, a.e 21 (d 1 rfl)]) rfl,
  fun f s W c d i j l a => opv rfl rfl (by simp [go_sem, a.e 22 (d 2 rfl), cb b4_0 c 22]) rfl,
  fun f s W c d i j l a => by have cv_ := IntWalk.i64_in (sv 22) (by omega); exact opv rfl rfl (by simp [go_sem, a.e 23 (d 3 rfl), cv_]) rfl,
  fun f s W c d i j l a => by have qu_ : ((sv 22)).tmod 2 = ((sv 22) % 2) := Int.tmod_eq_emod_of_nonneg (by omega); have qw_ := IntWalk.i64_in ((sv 22) % 2) (by omega); exact opv rfl rfl (by simp [go_sem, a.e 24 (d 4 rfl), qu_, qw_]) rfl,
  fun f s W c d i j l a => by have rn_ : 1 + ((sv 22) % 2) = m2 := hm2.out; have rm_ := IntWalk.i64_in m2 (by omega); exact opv rfl rfl (by simp [go_sem, a.e 25 (d 5 rfl), IntWalk.i64_in (1 + ((sv 22) % 2)) (by omega), rn_, rm_]) rfl,
  fun f s W c d i j l a => opr rfl rfl (by simp [go_sem, a.e 26 (d 6 rfl)]),
  fun f s W c d i j l a => opv rfl rfl (by simp [go_sem, a.e 2 k4_2]) rfl,
  fun f s W c d i j l a => opv rfl rfl (by simp [go_sem, a.e 28 (d 8 rfl)]) rfl,
  fun f s W c d i j l a => opv rfl rfl (by simp [go_sem, a.e 29 (d 9 rfl)]) rfl,
  fun f s W c d i j l a => opv rfl rfl (by simp [go_sem, a.e 30 (d 10 rfl), cb b4_0 c 23]) rfl,
  fun f s W c d i j l a => by have cv_ := IntWalk.i64_in (sv 23) (by omega); exact opv rfl rfl (by simp [go_sem, a.e 31 (d 11 rfl), cv_]) rfl,
  fun f s W c d i j l a => by have qu_ : ((sv 23)).tmod 9 = ((sv 23) % 9) := Int.tmod_eq_emod_of_nonneg (by omega); have qw_ := IntWalk.i64_in ((sv 23) % 9) (by omega); exact opv rfl rfl (by simp [go_sem, a.e 32 (d 12 rfl), qu_, qw_]) rfl,
  fun f s W c d i j l a => by have rn_ : 1 + ((sv 23) % 9) = r0 := hr0.out; have rm_ := IntWalk.i64_in r0 (by omega); exact opv rfl rfl (by simp [go_sem, a.e 33 (d 13 rfl), IntWalk.i64_in (1 + ((sv 23) % 9)) (by omega), rn_, rm_]) rfl,
  fun f s W c d i j l a => opv rfl rfl (by simp [go_sem, a.e 27 (d 7 rfl).1, a.e 34 (d 14 rfl), upd]) rfl,
  fun f s W c d i j l a => opv rfl rfl (by simp [go_sem, a.e 2 k4_2]) rfl,
  fun f s W c d i j l a => opv rfl rfl (by simp [go_sem, a.e 36 (d 16 rfl)]) rfl,
  fun f s W c d i j l a => opv rfl rfl (by simp [go_sem, a.e 37 (d 17 rfl)]) rfl,
  fun f s W c d i j l a => opv rfl rfl (by simp [go_sem, a.e 38 (d 18 rfl), cb b4_0 c 25]) rfl,
  fun f s W c d i j l a => by have cv_ := IntWalk.i64_in (sv 25) (by omega); exact opv rfl rfl (by simp [go_sem, a.e 39 (d 19 rfl), cv_]) rfl,
  fun f s W c d i j l a => by have qu_ : ((sv 25)).tmod 2 = ((sv 25) % 2) := Int.tmod_eq_emod_of_nonneg (by omega); have qw_ := IntWalk.i64_in ((sv 25) % 2) (by omega); exact opv rfl rfl (by simp [go_sem, a.e 40 (d 20 rfl), qu_, qw_]) rfl,
  fun f s W c d i j l a => by have rn_ : 1 + ((sv 25) % 2) = m1 := hm1.out; have rm_ := IntWalk.i64_in m1 (by omega); exact opv rfl rfl (by simp [go_sem, a.e 41 (d 21 rfl), IntWalk.i64_in (1 + ((sv 25) % 2)) (by omega), rn_, rm_]) rfl,
  fun f s W c d i j l a => opr rfl rfl (by simp [go_sem, a.e 42 (d 22 rfl)]),
  fun f s W c d i j l a => opv rfl rfl (by simp [go_sem, a.e 2 k4_2]) rfl,
  fun f s W c d i j l a => opv rfl rfl (by simp [go_sem, a.e 44 (d 24 rfl)]) rfl,
  fun f s W c d i j l a => opv rfl rfl (by simp [go_sem, a.e 45 (d 25 rfl)]) rfl,
  fun f s W c d i j l a => opv rfl rfl (by simp [go_sem, a.e 46 (d 26 rfl), cb b4_0 c 26]) rfl,
  fun f s W c d i j l a => by have cv_ := IntWalk.i64_in (sv 26) (by omega); exact opv rfl rfl (by simp [go_sem, a.e 47 (d 27 rfl), cv_]) rfl,
  fun f s W c d i j l a => by have qu_ : ((sv 26)).tmod 9 = ((sv 26) % 9) := Int.tmod_eq_emod_of_nonneg (by omega); have qw_ := IntWalk.i64_in ((sv 26) % 9) (by omega); exact opv rfl rfl (by simp [go_sem, a.e 48 (d 28 rfl), qu_, qw_]) rfl,
  fun f s W c d i j l a => by have rn_ : 1 + ((sv 26) % 9) = r1 := hr1.out; have rm_ := IntWalk.i64_in r1 (by omega); exact opv rfl rfl (by simp [go_sem, a.e 49 (d 29 rfl), IntWalk.i64_in (1 + ((sv 26) % 9)) (by omega), rn_, rm_]) rfl,
  fun f s W c d i j l a => opv rfl rfl (by simp [go_sem, a.e 43 (d 23 rfl).1, a.e 50 (d 30 rfl), upd]) rfl,
  fun f s W c d i j l a => opDo_value (v := .slice (some ⟨W.heap.size, 0, none⟩) (2) (2)) rfl rfl (by simp [go_sem, a.e 35 (d 15 rfl), a.e 51 (d 31 rfl), upd]) (balloc1 _ _) ⟨rfl, blk_new rfl⟩,
  fun f s W c d i j l a => opv rfl rfl (by simp [go_sem, a.e 52 (d 32 rfl).1, upd]) rfl, trivial⟩ ?_
 intro f5 s5 W5 hB5 g5 hg5
 have fB5 := hB5.f fB4
 have z5 := hB5.below.size
 have b5_0 := hB5.b b4_0
 have b5_1 := hB5.b b4_1
 have b5_2 := hB5.b b4_2
 have b5_3 := hB5.b br4_1
 have q1' := (on0.below hB5.below)
 obtain ⟨r5_7, br5_7⟩ := hB5.is 7
 have lr5_7 := hB5.lr 7 br5_7
 obtain ⟨r5_23, br5_23⟩ := hB5.is 23
 have lr5_23 := hB5.lr 23 br5_23
 obtain ⟨r5_32, br5_32⟩ := hB5.is 32
 have lr5_32 := hB5.lr 32 br5_32
 have ne5_7_23 := hB5.nb 7 23
 have ne5_7_32 := hB5.nb 7 32
 have ne5_23_32 := hB5.nb 23 32
 refine hK4 _ _ ?_
 have k5_1 := kt hg5 1 k4_1
 have k5_2 := kt hg5 2 k4_2
 have k5_4 := kt hg5 4 k4_4
 have k5_5 := kt hg5 5 k4_5
 have k5_6 := kt hg5 6 k4_6
 have k5_7 := kt hg5 7 k4_7
 have k5_8 := kt hg5 8 k8_
 have k5_9 := kt hg5 9 k4_9
 have k5_10 := kt hg5 10 (hB5.is 33)
 clear b4_0 b4_1 b4_2 br4_1 fB4 hB5 hK4 hg5 k4_1 k4_2 k4_4 k4_5 k4_6 k4_7 k4_9 r5_23 r5_32 r5_7
 refine wp_seq_k fun K5 hK5 => ?_
 refine wp_seq_k fun K6 hK6 => ?_
 as_aux_lemma =>
 refine region_dk 1 [(11, 0)] [[]] (rel [is (.int .i64 0)])
  ⟨is_k, trivial⟩
  ⟨fun f s W c d i j l a => opv rfl rfl (by simp [go_sem]) rfl, trivial⟩ ?_
 intro f6 s6 W6 hB6 g6 hg6
 have fB6 := hB6.f fB5
 have z6 := hB6.below.size
 have b6_0 := hB6.b b5_0
 have b6_1 := hB6.b b5_1
 have b6_2 := hB6.b b5_2
 have b6_3 := hB6.b b5_3
 have b6_4 := hB6.b br5_7
 have b6_5 := hB6.b br5_23
 have b6_6 := hB6.b br5_32
 have q2' := (q1'.below hB6.below)
 refine hK6 _ _ ?_
 have k6_1 := kt hg6 1 k5_1
 have k6_2 := kt hg6 2 k5_2
 have k6_4 := kt hg6 4 k5_4
 have k6_5 := kt hg6 5 k5_5
 have k6_6 := kt hg6 6 k5_6
 have k6_7 := kt hg6 7 k5_7
 have k6_8 := kt hg6 8 k5_8
 have k6_9 := kt hg6 9 k5_9
 have k6_10 := kt hg6 10 k5_10
 have k6_11 := kt hg6 11 (hB6.is 0)
 clear b5_0 b5_1 b5_2 b5_3 br5_23 br5_32 br5_7 fB5 hB6 hK6 hg6 k5_1 k5_10 k5_2 k5_4 k5_5 k5_6 k5_7 k5_8 k5_9
 refine wp_block ?_
 refine wp_loop_rounds 4 ?_
 rw [rounds_succ]
 refine wp_seq_k fun K7 hK7 => ?_
 refine wp_seq_k fun K8 hK8 => ?_
 as_aux_lemma =>
 refine region_dk 2 [(53, 0), (54, 1)] [[], [0]] (rel [is (.int .i64 0),
   is (.bool true)])
  ⟨is_k, is_k, trivial⟩
  ⟨fun f s W c d i j l a => opv rfl rfl (by simp [go_sem, a.e 11 k6_11]) rfl,
  fun f s W c d i j l a => opv rfl rfl (by simp [go_sem, a.e 53 (d 0 rfl)]) rfl, trivial⟩ ?_
 intro f7 s7 W7 hB7 g7 hg7
 have fB7 := hB7.f fB6
 have z7 := hB7.below.size
 have b7_0 := hB7.b b6_0
 have b7_1 := hB7.b b6_1
 have b7_2 := hB7.b b6_2
 have b7_3 := hB7.b b6_3
 have b7_4 := hB7.b b6_4
 have b7_5 := hB7.b b6_5
 have b7_6 := hB7.b b6_6
 have q3' := (q2'.below hB7.below)
 refine hK8 _ _ ?_
 have k7_1 := kt hg7 1 k6_1
 have k7_2 := kt hg7 2 k6_2
 have k7_4 := kt hg7 4 k6_4
 have k7_5 := kt hg7 5 k6_5
 have k7_6 := kt hg7 6 k6_6
 have k7_7 := kt hg7 7 k6_7
 have k7_8 := kt hg7 8 k6_8
 have k7_9 := kt hg7 9 k6_9
 have k7_10 := kt hg7 10 k6_10
 have k7_11 := kt hg7 11 k6_11
 have k7_54 := kt hg7 54 (hB7.is 1)
 clear b6_0 b6_1 b6_2 b6_3 b6_4 b6_5 b6_6 fB6 hB7 hK8 hg7 k6_1 k6_10 k6_11 k6_2 k6_4 k6_5 k6_6 k6_7 k6_8 k6_9
 refine wp_cond_true ((fr_eval rfl).trans k7_54) ?_
 refine wp_skip ?_
 refine hK7 _ _ ?_
 clear hK7
 refine wp_seq_k fun K10 hK10 => ?_
 refine wp_block ?_
 as_aux_lemma =>
 refine region_dk 7 [(57, 0), (58, 1), (59, 2), (60, 3), (61, 4), (62, 5), (63, 6), (64, 7), (8, 8)] [[], [], [], [1, 2], [1, 2, 3], [1, 2, 3, 4], [1, 2, 3, 4, 5], [0, 1, 2, 3, 4, 5, 6], [0, 1, 2, 3, 4, 5, 6, 7]] (rel [is (.slice (some ⟨b0, 0, none⟩) (0) (0)),
   is (.slice (ay) (3) (cy)),
   is (.int .i64 0),
   is (.pointer (some ⟨by_, oy_ + 0, none⟩)),
   is (.int .i64 al0),
   is (.agg #[.int .i64 al0, .int .i64 0, .int .i64 0]),
   row 6 1 #[.int .i64 al0, .int .i64 0, .int .i64 0] 72])
  ⟨is_k, is_k, is_k, is_k, is_k, is_k, row_k, trivial⟩
  ⟨fun f s W c d i j l a => opv rfl rfl (by simp [go_sem, a.e 8 ((j 8 8 rfl rfl).trans k7_8)]) rfl,
  fun f s W c d i j l a => opv rfl rfl (by simp [go_sem, a.e 1 k7_1]) rfl,
  fun f s W c d i j l a => opv rfl rfl (by simp [go_sem, a.e 11 k7_11]) rfl,
  fun f s W c d i j l a => by have hab := (hY_ (by decide)).1; exact opv rfl rfl (by simp [go_sem, a.e 58 (d 1 rfl), a.e 59 (d 2 rfl), hab]) rfl,
  fun f s W c d i j l a => by have m := below_trans fB7 c; have cu_ : W.cell? ⟨by_, oy_, none⟩ = some (.int .i64 al0) := (hY_ (by decide)).2 W m 0 (by decide); exact opv rfl rfl (by simp [go_sem, a.e 60 (d 3 rfl), cu_]) rfl,
  fun f s W c d i j l a => opv rfl rfl (by simp [go_sem, a.e 61 (d 4 rfl)]) rfl,
  fun f s W c d i j l a => opr rfl rfl (by simp [go_sem, a.e 62 (d 5 rfl)]), trivial⟩ ?_
 clear k7_8
 intro f8 s8 W8 hB8 g8 hg8
 have fB8 := hB8.f fB7
 have z8 := hB8.below.size
 have b8_0 := hB8.b b7_0
 have b8_1 := hB8.b b7_1
 have b8_2 := hB8.b b7_2
 have b8_3 := hB8.b b7_3
 have b8_4 := hB8.b b7_4
 have b8_5 := hB8.b b7_5
 have b8_6 := hB8.b b7_6
 have q4' := (q3'.below hB8.below)
 obtain ⟨r8_6, br8_6⟩ := hB8.is 6
 have lr8_6 := hB8.lr 6 br8_6
 have k8_1 := kt hg8 1 k7_1
 have k8_2 := kt hg8 2 k7_2
 have k8_4 := kt hg8 4 k7_4
 have k8_5 := kt hg8 5 k7_5
 have k8_6 := kt hg8 6 k7_6
 have k8_7 := kt hg8 7 k7_7
 have k8_9 := kt hg8 9 k7_9
 have k8_10 := kt hg8 10 k7_10
 have k8_11 := kt hg8 11 k7_11
 have k8_54 := kt hg8 54 k7_54
 have k8_57 := kt hg8 57 (hB8.is 0)
 have k8_63 := kt hg8 63 r8_6
 obtain ⟨ga9, ca9, W9, ra9, ow9, ot9, z9, gg9, fB9⟩ := growN_tail 36 36 72 3 24 _ (by kernel_rfl) infoO rfl [.int .i64 al0, .int .i64 0, .int .i64 0] 1 (off := 0) (k := 1) (c' := 1) [.int .i64 al0, .int .i64 0, .int .i64 0] fB8 q4' rfl rfl rfl rfl (cells_at br8_6) (by omega)
 refine tail_value2 (o := _) rfl rfl rfl (run_appendOp (fr_ev k8_57) (fr_ev k8_63) ra9) ?_
 have b9_0 := ot9 _ _ (ownN_ne q4' b8_0) b8_0
 have b9_1 := ot9 _ _ (ownN_ne q4' b8_1) b8_1
 have b9_2 := ot9 _ _ (ownN_ne q4' b8_2) b8_2
 have b9_3 := ot9 _ _ (ownN_ne q4' b8_3) b8_3
 have b9_4 := ot9 _ _ (ownN_ne q4' b8_4) b8_4
 have b9_5 := ot9 _ _ (ownN_ne q4' b8_5) b8_5
 have b9_6 := ot9 _ _ (ownN_ne q4' b8_6) b8_6
 have on9 : OwnN 72 3 w.heap.size 1 [.int .i64 al0, .int .i64 0, .int .i64 0] (some ⟨ga9, 0, none⟩) ca9 W9 := .inr ⟨_, rfl, ow9⟩
 generalize hg9 : upd g8 64 (.slice (some ⟨ga9, 0, none⟩) (1) (ca9)) = g9
 have k9_1 := ku hg9 1 k8_1
 have k9_2 := ku hg9 2 k8_2
 have k9_4 := ku hg9 4 k8_4
 have k9_5 := ku hg9 5 k8_5
 have k9_6 := ku hg9 6 k8_6
 have k9_7 := ku hg9 7 k8_7
 have k9_9 := ku hg9 9 k8_9
 have k9_10 := ku hg9 10 k8_10
 have k9_11 := ku hg9 11 k8_11
 have k9_54 := ku hg9 54 k8_54
 have k9_57 := ku hg9 57 k8_57
 have k9_63 := ku hg9 63 k8_63
 have k9_64 := kt hg9 64 (upd_same _ _ _)
 refine tail_value (o := _) rfl rfl rfl (v := .slice (some ⟨ga9, 0, none⟩) (1) (ca9)) (by simp [go_sem, frv 168 k9_64]) ?_
 generalize hg10 : upd g9 8 (.slice (some ⟨ga9, 0, none⟩) (1) (ca9)) = g10
 have k10_1 := ku hg10 1 k9_1
 have k10_2 := ku hg10 2 k9_2
 have k10_4 := ku hg10 4 k9_4
 have k10_5 := ku hg10 5 k9_5
 have k10_6 := ku hg10 6 k9_6
 have k10_7 := ku hg10 7 k9_7
 have k10_9 := ku hg10 9 k9_9
 have k10_10 := ku hg10 10 k9_10
 have k10_11 := ku hg10 11 k9_11
 have k10_54 := ku hg10 54 k9_54
 have k10_57 := ku hg10 57 k9_57
 have k10_63 := ku hg10 63 k9_63
 have k10_64 := ku hg10 64 k9_64
 have k10_8 := kt hg10 8 (upd_same _ _ _)
 refine wpOps_end ?_
 refine inBlock_normal ?_
 refine hK10 _ _ ?_
 as_aux_lemma =>
 refine region_dk 3 [(55, 0), (56, 1), (11, 2)] [[], [0], [0, 1]] (rel [is (.int .i64 0),
   is (.int .i64 1),
   is (.int .i64 1)])
  ⟨is_k, is_k, is_k, trivial⟩
  ⟨fun f s W c d i j l a => opv rfl rfl (by simp [go_sem, a.e 11 ((j 2 11 rfl rfl).trans k10_11)]) rfl,
  fun f s W c d i j l a => opv rfl rfl (by simp [go_sem, a.e 55 (d 0 rfl), IntWalk.i64_in (1) (by omega)]) rfl,
  fun f s W c d i j l a => opv rfl rfl (by simp [go_sem, a.e 56 (d 1 rfl)]) rfl, trivial⟩ ?_
 clear b7_0 b7_1 b7_2 b7_3 b7_4 b7_5 b7_6 b8_0 b8_1 b8_2 b8_3 b8_4 b8_5 b8_6 br8_6 fB7 fB8 hB8 hK10 hg10 hg8 hg9 k10_11 k7_1 k7_10 k7_11 k7_2 k7_4 k7_5 k7_54 k7_6 k7_7 k7_9 k8_1 k8_10 k8_11 k8_2 k8_4 k8_5 k8_54 k8_57 k8_6 k8_63 k8_7 k8_9 k9_1 k9_10 k9_11 k9_2 k9_4 k9_5 k9_54 k9_57 k9_6 k9_63 k9_64 k9_7 k9_9 ot9 r8_6
 intro f11 s11 W11 hB11 g11 hg11
 have fB11 := hB11.f fB9
 have z11 := hB11.below.size
 have b11_0 := hB11.b b9_0
 have b11_1 := hB11.b b9_1
 have b11_2 := hB11.b b9_2
 have b11_3 := hB11.b b9_3
 have b11_4 := hB11.b b9_4
 have b11_5 := hB11.b b9_5
 have b11_6 := hB11.b b9_6
 have q5' := (on9.below hB11.below)
 refine wpOps_end ?_
 have k11_1 := kt hg11 1 k10_1
 have k11_2 := kt hg11 2 k10_2
 have k11_4 := kt hg11 4 k10_4
 have k11_5 := kt hg11 5 k10_5
 have k11_6 := kt hg11 6 k10_6
 have k11_7 := kt hg11 7 k10_7
 have k11_9 := kt hg11 9 k10_9
 have k11_10 := kt hg11 10 k10_10
 have k11_54 := kt hg11 54 k10_54
 have k11_57 := kt hg11 57 k10_57
 have k11_63 := kt hg11 63 k10_63
 have k11_64 := kt hg11 64 k10_64
 have k11_8 := kt hg11 8 k10_8
 have k11_11 := kt hg11 11 (hB11.is 2)
 refine then_normal ?_
 rw [rounds_succ]
 clear b9_0 b9_1 b9_2 b9_3 b9_4 b9_5 b9_6 fB9 hB11 hg11 k10_1 k10_10 k10_2 k10_4 k10_5 k10_54 k10_57 k10_6 k10_63 k10_64 k10_7 k10_8 k10_9 k11_54
 refine wp_seq_k fun K11 hK11 => ?_
 refine wp_seq_k fun K12 hK12 => ?_
 as_aux_lemma =>
 refine region_dk 2 [(53, 0), (54, 1)] [[], [0]] (rel [is (.int .i64 1),
   is (.bool true)])
  ⟨is_k, is_k, trivial⟩
  ⟨fun f s W c d i j l a => opv rfl rfl (by simp [go_sem, a.e 11 k11_11]) rfl,
  fun f s W c d i j l a => opv rfl rfl (by simp [go_sem, a.e 53 (d 0 rfl)]) rfl, trivial⟩ ?_
 intro f12 s12 W12 hB12 g12 hg12
 have fB12 := hB12.f fB11
 have z12 := hB12.below.size
 have b12_0 := hB12.b b11_0
 have b12_1 := hB12.b b11_1
 have b12_2 := hB12.b b11_2
 have b12_3 := hB12.b b11_3
 have b12_4 := hB12.b b11_4
 have b12_5 := hB12.b b11_5
 have b12_6 := hB12.b b11_6
 have q6' := (q5'.below hB12.below)
 refine hK12 _ _ ?_
 have k12_1 := kt hg12 1 k11_1
 have k12_2 := kt hg12 2 k11_2
 have k12_4 := kt hg12 4 k11_4
 have k12_5 := kt hg12 5 k11_5
 have k12_6 := kt hg12 6 k11_6
 have k12_7 := kt hg12 7 k11_7
 have k12_9 := kt hg12 9 k11_9
 have k12_10 := kt hg12 10 k11_10
 have k12_57 := kt hg12 57 k11_57
 have k12_63 := kt hg12 63 k11_63
 have k12_64 := kt hg12 64 k11_64
 have k12_8 := kt hg12 8 k11_8
 have k12_11 := kt hg12 11 k11_11
 have k12_54 := kt hg12 54 (hB12.is 1)
 clear b11_0 b11_1 b11_2 b11_3 b11_4 b11_5 b11_6 fB11 hB12 hK12 hg12 k11_1 k11_10 k11_11 k11_2 k11_4 k11_5 k11_57 k11_6 k11_63 k11_64 k11_7 k11_8 k11_9 k12_57 k12_63 k12_64
 refine wp_cond_true ((fr_eval rfl).trans k12_54) ?_
 refine wp_skip ?_
 refine hK11 _ _ ?_
 clear hK11
 refine wp_seq_k fun K14 hK14 => ?_
 refine wp_block ?_
 as_aux_lemma =>
 refine region_dk 7 [(57, 0), (58, 1), (59, 2), (60, 3), (61, 4), (62, 5), (63, 6), (64, 7), (8, 8)] [[], [], [], [1, 2], [1, 2, 3], [1, 2, 3, 4], [1, 2, 3, 4, 5], [0, 1, 2, 3, 4, 5, 6], [0, 1, 2, 3, 4, 5, 6, 7]] (rel [is (.slice (some ⟨ga9, 0, none⟩) (1) (ca9)),
   is (.slice (ay) (3) (cy)),
   is (.int .i64 1),
   is (.pointer (some ⟨by_, oy_ + 1, none⟩)),
   is (.int .i64 al1),
   is (.agg #[.int .i64 al1, .int .i64 0, .int .i64 0]),
   row 6 1 #[.int .i64 al1, .int .i64 0, .int .i64 0] 72])
  ⟨is_k, is_k, is_k, is_k, is_k, is_k, row_k, trivial⟩
  ⟨fun f s W c d i j l a => opv rfl rfl (by simp [go_sem, a.e 8 ((j 8 8 rfl rfl).trans k12_8)]) rfl,
  fun f s W c d i j l a => opv rfl rfl (by simp [go_sem, a.e 1 k12_1]) rfl,
  fun f s W c d i j l a => opv rfl rfl (by simp [go_sem, a.e 11 k12_11]) rfl,
  fun f s W c d i j l a => by have hab := (hY_ (by decide)).1; exact opv rfl rfl (by simp [go_sem, a.e 58 (d 1 rfl), a.e 59 (d 2 rfl), hab]) rfl,
  fun f s W c d i j l a => by have m := below_trans fB12 c; have cu_ : W.cell? ⟨by_, oy_ + 1, none⟩ = some (.int .i64 al1) := (hY_ (by decide)).2 W m 1 (by decide); exact opv rfl rfl (by simp [go_sem, a.e 60 (d 3 rfl), cu_]) rfl,
  fun f s W c d i j l a => opv rfl rfl (by simp [go_sem, a.e 61 (d 4 rfl)]) rfl,
  fun f s W c d i j l a => opr rfl rfl (by simp [go_sem, a.e 62 (d 5 rfl)]), trivial⟩ ?_
 clear k12_8
 intro f13 s13 W13 hB13 g13 hg13
 have fB13 := hB13.f fB12
 have z13 := hB13.below.size
 have b13_0 := hB13.b b12_0
 have b13_1 := hB13.b b12_1
 have b13_2 := hB13.b b12_2
 have b13_3 := hB13.b b12_3
 have b13_4 := hB13.b b12_4
 have b13_5 := hB13.b b12_5
 have b13_6 := hB13.b b12_6
 have q7' := (q6'.below hB13.below)
 obtain ⟨r13_6, br13_6⟩ := hB13.is 6
 have lr13_6 := hB13.lr 6 br13_6
 have k13_1 := kt hg13 1 k12_1
 have k13_2 := kt hg13 2 k12_2
 have k13_4 := kt hg13 4 k12_4
 have k13_5 := kt hg13 5 k12_5
 have k13_6 := kt hg13 6 k12_6
 have k13_7 := kt hg13 7 k12_7
 have k13_9 := kt hg13 9 k12_9
 have k13_10 := kt hg13 10 k12_10
 have k13_11 := kt hg13 11 k12_11
 have k13_54 := kt hg13 54 k12_54
 have k13_57 := kt hg13 57 (hB13.is 0)
 have k13_63 := kt hg13 63 r13_6
 obtain ⟨ga14, ca14, W14, ra14, ow14, ot14, z14, gg14, fB14⟩ := growN_tail 36 36 72 3 24 _ (by kernel_rfl) infoO rfl [.int .i64 al0, .int .i64 0, .int .i64 0, .int .i64 al1, .int .i64 0, .int .i64 0] 2 (off := 0) (k := 1) (c' := 1) [.int .i64 al1, .int .i64 0, .int .i64 0] fB13 q7' rfl rfl rfl rfl (cells_at br13_6) (by omega)
 refine tail_value2 (o := _) rfl rfl rfl (run_appendOp (fr_ev k13_57) (fr_ev k13_63) ra14) ?_
 have b14_0 := ot14 _ _ (ownN_ne q7' b13_0) b13_0
 have b14_1 := ot14 _ _ (ownN_ne q7' b13_1) b13_1
 have b14_2 := ot14 _ _ (ownN_ne q7' b13_2) b13_2
 have b14_3 := ot14 _ _ (ownN_ne q7' b13_3) b13_3
 have b14_4 := ot14 _ _ (ownN_ne q7' b13_4) b13_4
 have b14_5 := ot14 _ _ (ownN_ne q7' b13_5) b13_5
 have b14_6 := ot14 _ _ (ownN_ne q7' b13_6) b13_6
 have on14 : OwnN 72 3 w.heap.size 2 [.int .i64 al0, .int .i64 0, .int .i64 0, .int .i64 al1, .int .i64 0, .int .i64 0] (some ⟨ga14, 0, none⟩) ca14 W14 := .inr ⟨_, rfl, ow14⟩
 generalize hg14 : upd g13 64 (.slice (some ⟨ga14, 0, none⟩) (2) (ca14)) = g14
 have k14_1 := ku hg14 1 k13_1
 have k14_2 := ku hg14 2 k13_2
 have k14_4 := ku hg14 4 k13_4
 have k14_5 := ku hg14 5 k13_5
 have k14_6 := ku hg14 6 k13_6
 have k14_7 := ku hg14 7 k13_7
 have k14_9 := ku hg14 9 k13_9
 have k14_10 := ku hg14 10 k13_10
 have k14_11 := ku hg14 11 k13_11
 have k14_54 := ku hg14 54 k13_54
 have k14_57 := ku hg14 57 k13_57
 have k14_63 := ku hg14 63 k13_63
 have k14_64 := kt hg14 64 (upd_same _ _ _)
 refine tail_value (o := _) rfl rfl rfl (v := .slice (some ⟨ga14, 0, none⟩) (2) (ca14)) (by simp [go_sem, frv 168 k14_64]) ?_
 generalize hg15 : upd g14 8 (.slice (some ⟨ga14, 0, none⟩) (2) (ca14)) = g15
 have k15_1 := ku hg15 1 k14_1
 have k15_2 := ku hg15 2 k14_2
 have k15_4 := ku hg15 4 k14_4
 have k15_5 := ku hg15 5 k14_5
 have k15_6 := ku hg15 6 k14_6
 have k15_7 := ku hg15 7 k14_7
 have k15_9 := ku hg15 9 k14_9
 have k15_10 := ku hg15 10 k14_10
 have k15_11 := ku hg15 11 k14_11
 have k15_54 := ku hg15 54 k14_54
 have k15_57 := ku hg15 57 k14_57
 have k15_63 := ku hg15 63 k14_63
 have k15_64 := ku hg15 64 k14_64
 have k15_8 := kt hg15 8 (upd_same _ _ _)
 refine wpOps_end ?_
 refine inBlock_normal ?_
 refine hK14 _ _ ?_
 as_aux_lemma =>
 refine region_dk 3 [(55, 0), (56, 1), (11, 2)] [[], [0], [0, 1]] (rel [is (.int .i64 1),
   is (.int .i64 2),
   is (.int .i64 2)])
  ⟨is_k, is_k, is_k, trivial⟩
  ⟨fun f s W c d i j l a => opv rfl rfl (by simp [go_sem, a.e 11 ((j 2 11 rfl rfl).trans k15_11)]) rfl,
  fun f s W c d i j l a => opv rfl rfl (by simp [go_sem, a.e 55 (d 0 rfl), IntWalk.i64_in (2) (by omega)]) rfl,
  fun f s W c d i j l a => opv rfl rfl (by simp [go_sem, a.e 56 (d 1 rfl)]) rfl, trivial⟩ ?_
 clear b12_0 b12_1 b12_2 b12_3 b12_4 b12_5 b12_6 b13_0 b13_1 b13_2 b13_3 b13_4 b13_5 b13_6 br13_6 fB12 fB13 hB13 hK14 hg13 hg14 hg15 k12_1 k12_10 k12_11 k12_2 k12_4 k12_5 k12_54 k12_6 k12_7 k12_9 k13_1 k13_10 k13_11 k13_2 k13_4 k13_5 k13_54 k13_57 k13_6 k13_63 k13_7 k13_9 k14_1 k14_10 k14_11 k14_2 k14_4 k14_5 k14_54 k14_57 k14_6 k14_63 k14_64 k14_7 k14_9 k15_11 ot14 r13_6
 intro f16 s16 W16 hB16 g16 hg16
 have fB16 := hB16.f fB14
 have z16 := hB16.below.size
 have b16_0 := hB16.b b14_0
 have b16_1 := hB16.b b14_1
 have b16_2 := hB16.b b14_2
 have b16_3 := hB16.b b14_3
 have b16_4 := hB16.b b14_4
 have b16_5 := hB16.b b14_5
 have b16_6 := hB16.b b14_6
 have q8' := (on14.below hB16.below)
 refine wpOps_end ?_
 have k16_1 := kt hg16 1 k15_1
 have k16_2 := kt hg16 2 k15_2
 have k16_4 := kt hg16 4 k15_4
 have k16_5 := kt hg16 5 k15_5
 have k16_6 := kt hg16 6 k15_6
 have k16_7 := kt hg16 7 k15_7
 have k16_9 := kt hg16 9 k15_9
 have k16_10 := kt hg16 10 k15_10
 have k16_54 := kt hg16 54 k15_54
 have k16_57 := kt hg16 57 k15_57
 have k16_63 := kt hg16 63 k15_63
 have k16_64 := kt hg16 64 k15_64
 have k16_8 := kt hg16 8 k15_8
 have k16_11 := kt hg16 11 (hB16.is 2)
 refine then_normal ?_
 rw [rounds_succ]
 clear b14_0 b14_1 b14_2 b14_3 b14_4 b14_5 b14_6 fB14 hB16 hg16 k15_1 k15_10 k15_2 k15_4 k15_5 k15_54 k15_57 k15_6 k15_63 k15_64 k15_7 k15_8 k15_9 k16_54
 refine wp_seq_k fun K15 hK15 => ?_
 refine wp_seq_k fun K16 hK16 => ?_
 as_aux_lemma =>
 refine region_dk 2 [(53, 0), (54, 1)] [[], [0]] (rel [is (.int .i64 2),
   is (.bool true)])
  ⟨is_k, is_k, trivial⟩
  ⟨fun f s W c d i j l a => opv rfl rfl (by simp [go_sem, a.e 11 k16_11]) rfl,
  fun f s W c d i j l a => opv rfl rfl (by simp [go_sem, a.e 53 (d 0 rfl)]) rfl, trivial⟩ ?_
 intro f17 s17 W17 hB17 g17 hg17
 have fB17 := hB17.f fB16
 have z17 := hB17.below.size
 have b17_0 := hB17.b b16_0
 have b17_1 := hB17.b b16_1
 have b17_2 := hB17.b b16_2
 have b17_3 := hB17.b b16_3
 have b17_4 := hB17.b b16_4
 have b17_5 := hB17.b b16_5
 have b17_6 := hB17.b b16_6
 have q9' := (q8'.below hB17.below)
 refine hK16 _ _ ?_
 have k17_1 := kt hg17 1 k16_1
 have k17_2 := kt hg17 2 k16_2
 have k17_4 := kt hg17 4 k16_4
 have k17_5 := kt hg17 5 k16_5
 have k17_6 := kt hg17 6 k16_6
 have k17_7 := kt hg17 7 k16_7
 have k17_9 := kt hg17 9 k16_9
 have k17_10 := kt hg17 10 k16_10
 have k17_57 := kt hg17 57 k16_57
 have k17_63 := kt hg17 63 k16_63
 have k17_64 := kt hg17 64 k16_64
 have k17_8 := kt hg17 8 k16_8
 have k17_11 := kt hg17 11 k16_11
 have k17_54 := kt hg17 54 (hB17.is 1)
 clear b16_0 b16_1 b16_2 b16_3 b16_4 b16_5 b16_6 fB16 hB17 hK16 hg17 k16_1 k16_10 k16_11 k16_2 k16_4 k16_5 k16_57 k16_6 k16_63 k16_64 k16_7 k16_8 k16_9 k17_57 k17_63 k17_64
 refine wp_cond_true ((fr_eval rfl).trans k17_54) ?_
 refine wp_skip ?_
 refine hK15 _ _ ?_
 clear hK15
 refine wp_seq_k fun K18 hK18 => ?_
 refine wp_block ?_
 as_aux_lemma =>
 refine region_dk 7 [(57, 0), (58, 1), (59, 2), (60, 3), (61, 4), (62, 5), (63, 6), (64, 7), (8, 8)] [[], [], [], [1, 2], [1, 2, 3], [1, 2, 3, 4], [1, 2, 3, 4, 5], [0, 1, 2, 3, 4, 5, 6], [0, 1, 2, 3, 4, 5, 6, 7]] (rel [is (.slice (some ⟨ga14, 0, none⟩) (2) (ca14)),
   is (.slice (ay) (3) (cy)),
   is (.int .i64 2),
   is (.pointer (some ⟨by_, oy_ + 2, none⟩)),
   is (.int .i64 al2),
   is (.agg #[.int .i64 al2, .int .i64 0, .int .i64 0]),
   row 6 1 #[.int .i64 al2, .int .i64 0, .int .i64 0] 72])
  ⟨is_k, is_k, is_k, is_k, is_k, is_k, row_k, trivial⟩
  ⟨fun f s W c d i j l a => opv rfl rfl (by simp [go_sem, a.e 8 ((j 8 8 rfl rfl).trans k17_8)]) rfl,
  fun f s W c d i j l a => opv rfl rfl (by simp [go_sem, a.e 1 k17_1]) rfl,
  fun f s W c d i j l a => opv rfl rfl (by simp [go_sem, a.e 11 k17_11]) rfl,
  fun f s W c d i j l a => by have hab := (hY_ (by decide)).1; exact opv rfl rfl (by simp [go_sem, a.e 58 (d 1 rfl), a.e 59 (d 2 rfl), hab]) rfl,
  fun f s W c d i j l a => by have m := below_trans fB17 c; have cu_ : W.cell? ⟨by_, oy_ + 2, none⟩ = some (.int .i64 al2) := (hY_ (by decide)).2 W m 2 (by decide); exact opv rfl rfl (by simp [go_sem, a.e 60 (d 3 rfl), cu_]) rfl,
  fun f s W c d i j l a => opv rfl rfl (by simp [go_sem, a.e 61 (d 4 rfl)]) rfl,
  fun f s W c d i j l a => opr rfl rfl (by simp [go_sem, a.e 62 (d 5 rfl)]), trivial⟩ ?_
 clear k17_8
 intro f18 s18 W18 hB18 g18 hg18
 have fB18 := hB18.f fB17
 have z18 := hB18.below.size
 have b18_0 := hB18.b b17_0
 have b18_1 := hB18.b b17_1
 have b18_2 := hB18.b b17_2
 have b18_3 := hB18.b b17_3
 have b18_4 := hB18.b b17_4
 have b18_5 := hB18.b b17_5
 have b18_6 := hB18.b b17_6
 have q10' := (q9'.below hB18.below)
 obtain ⟨r18_6, br18_6⟩ := hB18.is 6
 have lr18_6 := hB18.lr 6 br18_6
 have k18_1 := kt hg18 1 k17_1
 have k18_2 := kt hg18 2 k17_2
 have k18_4 := kt hg18 4 k17_4
 have k18_5 := kt hg18 5 k17_5
 have k18_6 := kt hg18 6 k17_6
 have k18_7 := kt hg18 7 k17_7
 have k18_9 := kt hg18 9 k17_9
 have k18_10 := kt hg18 10 k17_10
 have k18_11 := kt hg18 11 k17_11
 have k18_54 := kt hg18 54 k17_54
 have k18_57 := kt hg18 57 (hB18.is 0)
 have k18_63 := kt hg18 63 r18_6
 obtain ⟨ga19, ca19, W19, ra19, ow19, ot19, z19, gg19, fB19⟩ := growN_tail 36 36 72 3 24 _ (by kernel_rfl) infoO rfl [.int .i64 al0, .int .i64 0, .int .i64 0, .int .i64 al1, .int .i64 0, .int .i64 0, .int .i64 al2, .int .i64 0, .int .i64 0] 3 (off := 0) (k := 1) (c' := 1) [.int .i64 al2, .int .i64 0, .int .i64 0] fB18 q10' rfl rfl rfl rfl (cells_at br18_6) (by omega)
 refine tail_value2 (o := _) rfl rfl rfl (run_appendOp (fr_ev k18_57) (fr_ev k18_63) ra19) ?_
 have b19_0 := ot19 _ _ (ownN_ne q10' b18_0) b18_0
 have b19_1 := ot19 _ _ (ownN_ne q10' b18_1) b18_1
 have b19_2 := ot19 _ _ (ownN_ne q10' b18_2) b18_2
 have b19_3 := ot19 _ _ (ownN_ne q10' b18_3) b18_3
 have b19_4 := ot19 _ _ (ownN_ne q10' b18_4) b18_4
 have b19_5 := ot19 _ _ (ownN_ne q10' b18_5) b18_5
 have b19_6 := ot19 _ _ (ownN_ne q10' b18_6) b18_6
 have on19 : OwnN 72 3 w.heap.size 3 [.int .i64 al0, .int .i64 0, .int .i64 0, .int .i64 al1, .int .i64 0, .int .i64 0, .int .i64 al2, .int .i64 0, .int .i64 0] (some ⟨ga19, 0, none⟩) ca19 W19 := .inr ⟨_, rfl, ow19⟩
 generalize hg19 : upd g18 64 (.slice (some ⟨ga19, 0, none⟩) (3) (ca19)) = g19
 have k19_1 := ku hg19 1 k18_1
 have k19_2 := ku hg19 2 k18_2
 have k19_4 := ku hg19 4 k18_4
 have k19_5 := ku hg19 5 k18_5
 have k19_6 := ku hg19 6 k18_6
 have k19_7 := ku hg19 7 k18_7
 have k19_9 := ku hg19 9 k18_9
 have k19_10 := ku hg19 10 k18_10
 have k19_11 := ku hg19 11 k18_11
 have k19_54 := ku hg19 54 k18_54
 have k19_57 := ku hg19 57 k18_57
 have k19_63 := ku hg19 63 k18_63
 have k19_64 := kt hg19 64 (upd_same _ _ _)
 refine tail_value (o := _) rfl rfl rfl (v := .slice (some ⟨ga19, 0, none⟩) (3) (ca19)) (by simp [go_sem, frv 168 k19_64]) ?_
 generalize hg20 : upd g19 8 (.slice (some ⟨ga19, 0, none⟩) (3) (ca19)) = g20
 have k20_1 := ku hg20 1 k19_1
 have k20_2 := ku hg20 2 k19_2
 have k20_4 := ku hg20 4 k19_4
 have k20_5 := ku hg20 5 k19_5
 have k20_6 := ku hg20 6 k19_6
 have k20_7 := ku hg20 7 k19_7
 have k20_9 := ku hg20 9 k19_9
 have k20_10 := ku hg20 10 k19_10
 have k20_11 := ku hg20 11 k19_11
 have k20_54 := ku hg20 54 k19_54
 have k20_57 := ku hg20 57 k19_57
 have k20_63 := ku hg20 63 k19_63
 have k20_64 := ku hg20 64 k19_64
 have k20_8 := kt hg20 8 (upd_same _ _ _)
 refine wpOps_end ?_
 refine inBlock_normal ?_
 refine hK18 _ _ ?_
 as_aux_lemma =>
 refine region_dk 3 [(55, 0), (56, 1), (11, 2)] [[], [0], [0, 1]] (rel [is (.int .i64 2),
   is (.int .i64 3),
   is (.int .i64 3)])
  ⟨is_k, is_k, is_k, trivial⟩
  ⟨fun f s W c d i j l a => opv rfl rfl (by simp [go_sem, a.e 11 ((j 2 11 rfl rfl).trans k20_11)]) rfl,
  fun f s W c d i j l a => opv rfl rfl (by simp [go_sem, a.e 55 (d 0 rfl), IntWalk.i64_in (3) (by omega)]) rfl,
  fun f s W c d i j l a => opv rfl rfl (by simp [go_sem, a.e 56 (d 1 rfl)]) rfl, trivial⟩ ?_
 clear b17_0 b17_1 b17_2 b17_3 b17_4 b17_5 b17_6 b18_0 b18_1 b18_2 b18_3 b18_4 b18_5 b18_6 br18_6 fB17 fB18 hB18 hK18 hg18 hg19 hg20 k17_1 k17_10 k17_11 k17_2 k17_4 k17_5 k17_54 k17_6 k17_7 k17_9 k18_1 k18_10 k18_11 k18_2 k18_4 k18_5 k18_54 k18_57 k18_6 k18_63 k18_7 k18_9 k19_1 k19_10 k19_11 k19_2 k19_4 k19_5 k19_54 k19_57 k19_6 k19_63 k19_64 k19_7 k19_9 k20_11 ot19 r18_6
 intro f21 s21 W21 hB21 g21 hg21
 have fB21 := hB21.f fB19
 have z21 := hB21.below.size
 have b21_0 := hB21.b b19_0
 have b21_1 := hB21.b b19_1
 have b21_2 := hB21.b b19_2
 have b21_3 := hB21.b b19_3
 have b21_4 := hB21.b b19_4
 have b21_5 := hB21.b b19_5
 have b21_6 := hB21.b b19_6
 have q11' := (on19.below hB21.below)
 refine wpOps_end ?_
 have k21_1 := kt hg21 1 k20_1
 have k21_2 := kt hg21 2 k20_2
 have k21_4 := kt hg21 4 k20_4
 have k21_5 := kt hg21 5 k20_5
 have k21_6 := kt hg21 6 k20_6
 have k21_7 := kt hg21 7 k20_7
 have k21_9 := kt hg21 9 k20_9
 have k21_10 := kt hg21 10 k20_10
 have k21_54 := kt hg21 54 k20_54
 have k21_57 := kt hg21 57 k20_57
 have k21_63 := kt hg21 63 k20_63
 have k21_64 := kt hg21 64 k20_64
 have k21_8 := kt hg21 8 k20_8
 have k21_11 := kt hg21 11 (hB21.is 2)
 refine then_normal ?_
 rw [rounds_succ]
 clear b19_0 b19_1 b19_2 b19_3 b19_4 b19_5 b19_6 fB19 hB21 hg21 k20_1 k20_10 k20_2 k20_4 k20_5 k20_54 k20_57 k20_6 k20_63 k20_64 k20_7 k20_8 k20_9 k21_54
 refine wp_seq_k fun K19 hK19 => ?_
 clear hK19
 refine wp_seq_k fun K20 hK20 => ?_
 as_aux_lemma =>
 refine region_dk 2 [(53, 0), (54, 1)] [[], [0]] (rel [is (.int .i64 3),
   is (.bool false)])
  ⟨is_k, is_k, trivial⟩
  ⟨fun f s W c d i j l a => opv rfl rfl (by simp [go_sem, a.e 11 k21_11]) rfl,
  fun f s W c d i j l a => opv rfl rfl (by simp [go_sem, a.e 53 (d 0 rfl)]) rfl, trivial⟩ ?_
 intro f22 s22 W22 hB22 g22 hg22
 have fB22 := hB22.f fB21
 have z22 := hB22.below.size
 have b22_0 := hB22.b b21_0
 have b22_1 := hB22.b b21_1
 have b22_2 := hB22.b b21_2
 have b22_3 := hB22.b b21_3
 have b22_4 := hB22.b b21_4
 have b22_5 := hB22.b b21_5
 have b22_6 := hB22.b b21_6
 have q12' := (q11'.below hB22.below)
 refine hK20 _ _ ?_
 have k22_1 := kt hg22 1 k21_1
 have k22_2 := kt hg22 2 k21_2
 have k22_4 := kt hg22 4 k21_4
 have k22_5 := kt hg22 5 k21_5
 have k22_6 := kt hg22 6 k21_6
 have k22_7 := kt hg22 7 k21_7
 have k22_9 := kt hg22 9 k21_9
 have k22_10 := kt hg22 10 k21_10
 have k22_57 := kt hg22 57 k21_57
 have k22_63 := kt hg22 63 k21_63
 have k22_64 := kt hg22 64 k21_64
 have k22_8 := kt hg22 8 k21_8
 have k22_11 := kt hg22 11 k21_11
 have k22_54 := kt hg22 54 (hB22.is 1)
 clear b21_0 b21_1 b21_2 b21_3 b21_4 b21_5 b21_6 fB21 hB22 hK20 hg22 k21_1 k21_10 k21_11 k21_2 k21_4 k21_5 k21_57 k21_6 k21_63 k21_64 k21_7 k21_8 k21_9 k22_11 k22_57 k22_63 k22_64
 refine wp_cond_false ((fr_eval rfl).trans k22_54) ?_
 clear k22_54
 refine wp_exit ?_
 refine then_exit ?_
 refine then_exit ?_
 refine inBlock_at ?_
 refine hK5 _ _ ?_
 exact pubRun_any_c8 sv ay cy al0 al1 al2 m1 m2 r0 r1 ma1 ma2 lf0 lf1 qq1 qq2 plo0 phi0 plo phi nl0 nl1 nl2 nh0 nh1 nh2 w hY gsv gal0 gal1 gal2 hm2 hr0 hm1 hr1 hma1 hma2 gma1 gma2 hlf0 hlf1 hqq1 hqq2 gqq1 gqq2 gm1 gm2 gr0 gr1 glf0 glf1 gp0 gp1 gn0 gn1 gn2 hplo0 hphi0 hplo hphi hnl0 hnh0 hnl1 hnh1 hnl2 hnh2 g22 W22 (s1 0) (s1 1) (s2 2) (s4 1) (s5 32) ga14 ca14 (s18 6) ga19 ca19 (s5 7) (s5 23) k22_1 k22_2 k22_4 k22_5 k22_6 k22_7 k22_9 k22_10 k22_8 fB22 b22_0 b22_1 b22_2 b22_3 b22_4 b22_5 b22_6 q12' (by omega) (by omega) (by omega) (by omega) (by omega) (by omega) (by omega) (by omega) (by omega) (by omega) (by omega) (by omega) (by omega) (by omega) (by omega) (by omega) (by omega) (by omega) (by omega) (by omega) (by omega) (by omega) (by omega) (by omega) (by omega) (by omega) (by omega) (by omega)
end Go.Proofs.Ytnhipdbdolabkaa
