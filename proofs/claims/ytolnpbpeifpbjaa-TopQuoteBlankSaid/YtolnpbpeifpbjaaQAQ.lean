/- Part of the proof: what the claim leans on. -/
import Derived.Test.YtolnpbpeifpbjaaQAH
import Derived.Test.YtolnpbpeifpbjaaQAI
import Derived.Test.YtolnpbpeifpbjaaQAE
import Derived.Test.YtolnpbpeifpbjaaQAK
import Derived.Test.YtolnpbpeifpbjaaQAP
set_option linter.unusedSimpArgs false
set_option linter.unusedVariables false
namespace Go.Proofs.Ytolnpbpeifpbjaa
open Go.RowKit
set_option maxRecDepth 100000 in
set_option maxHeartbeats 40000000 in
theorem quote_main (fv : Nat → Int) (mv mo v0 v1 v2 v3 v4 : Int) (q : Qu) (tb0 lg0 wd0 hh0 fp0 fq0 sl0 tb1 lg1 wd1 hh1 fp1 fq1 sl1 : Int) (ac0 al0 A0 br0 ac1 al1 A1 br1 p0 p1 gg0 gg1 rr0 rr1 dd0 dd1 an0 an1 : Int) (pn0 pn1 nn : Nat) (w : World) (gmv : 0 ≤ mv ∧ mv ≤ 255) (hmo : mv % 50 = mo) (gv4 : 0 ≤ v4 ∧ v4 ≤ 255) (hbox0 : ∀ W, Calls Try.prog 7 #[.agg #[.int .u8 ((fv 0)), .int .u8 ((fv 1)), .int .u8 ((fv 2)), .int .u8 ((fv 3)), .int .u8 ((fv 4)), .int .u8 ((fv 5)), .int .u8 ((fv 6)), .int .u8 ((fv 7)), .int .u8 ((fv 8)), .int .u8 ((fv 9)), .int .u8 ((fv 10)), .int .u8 ((fv 11)), .int .u8 ((fv 12)), .int .u8 ((fv 13)), .int .u8 ((fv 14)), .int .u8 ((fv 15)), .int .u8 ((fv 16)), .int .u8 ((fv 17)), .int .u8 ((fv 18)), .int .u8 ((fv 19)), .int .u8 ((fv 20)), .int .u8 ((fv 21)), .int .u8 ((fv 22)), .int .u8 ((fv 23)), .int .u8 ((fv 24))], .int .i64 (0)] W (BoxOP tb0 lg0 wd0 hh0 fp0 fq0 sl0 W)) (hbox1 : ∀ W, Calls Try.prog 7 #[.agg #[.int .u8 ((fv 0)), .int .u8 ((fv 1)), .int .u8 ((fv 2)), .int .u8 ((fv 3)), .int .u8 ((fv 4)), .int .u8 ((fv 5)), .int .u8 ((fv 6)), .int .u8 ((fv 7)), .int .u8 ((fv 8)), .int .u8 ((fv 9)), .int .u8 ((fv 10)), .int .u8 ((fv 11)), .int .u8 ((fv 12)), .int .u8 ((fv 13)), .int .u8 ((fv 14)), .int .u8 ((fv 15)), .int .u8 ((fv 16)), .int .u8 ((fv 17)), .int .u8 ((fv 18)), .int .u8 ((fv 19)), .int .u8 ((fv 20)), .int .u8 ((fv 21)), .int .u8 ((fv 22)), .int .u8 ((fv 23)), .int .u8 ((fv 24))], .int .i64 (1 + mo)] W (BoxOP tb1 lg1 wd1 hh1 fp1 fq1 sl1 W)) (hquo : ∀ W, Calls Try.prog 5 #[.agg #[.int .u8 v0, .int .u8 v1, .int .u8 v2, .int .u8 v3]] W (fun e w' => ∃ v, e = .returned v ∧ QuO q v w' ∧ Below W.heap.size W w')) (hck0 : checkErr (⟨tb0, [lg0, wd0, lg0, wd0], hh0, [fp0, fp0], [fp0, fq0], sl0, false⟩ : Bl) = 0) (hac0 : acrossOf (⟨tb0, [lg0, wd0, lg0, wd0], hh0, [fp0, fp0], [fp0, fq0], sl0, false⟩ : Bl) = ac0) (hal0 : alongOf (⟨tb0, [lg0, wd0, lg0, wd0], hh0, [fp0, fp0], [fp0, fq0], sl0, false⟩ : Bl) = al0) (hA0 : ac0 * al0 = A0) (gA0 : 1 ≤ A0 ∧ A0 ≤ 1000000) (hbr0 : (A0 + 99) / 100 = br0) (hq0 : QuIn (quA q br0)) (hp0 : priceQ (quA q br0) (1 + (v4 * 7)) = p0) (gp0 : 0 ≤ p0 ∧ p0 ≤ 600000000001) (hpn0 : (pn0 : Int) = p0) (hgg0 : ((Nat.gcd pn0 nn : Nat) : Int) = gg0) (ggg0 : 1 ≤ gg0 ∧ gg0 ≤ 100000) (hrr0 : p0 / gg0 = rr0) (hdd0 : (1 + (v4 * 7)) / gg0 = dd0) (grr0 : 0 ≤ rr0 ∧ rr0 ≤ 600000000001) (gdd0 : 0 ≤ dd0 ∧ dd0 ≤ 100000) (grp0 : rr0 ≤ p0) (gd10 : 1 ≤ dd0) (gdn0 : dd0 ≤ (1 + (v4 * 7))) (hrn0 : rr0 * (1 + (v4 * 7)) = p0 * dd0) (gpd0 : -9223372036854775808 ≤ p0 * dd0 ∧ p0 * dd0 ≤ 9223372036854775807) (gan0 : 1 ≤ an0 ∧ an0 ≤ 100000) (hmm0 : MostAt (quA q br0) p1 an0) (hck1 : checkErr (⟨tb1, [lg1, wd1, lg1, wd1], hh1, [fp1, fp1], [fp1, fq1], sl1, false⟩ : Bl) = 0) (hac1 : acrossOf (⟨tb1, [lg1, wd1, lg1, wd1], hh1, [fp1, fp1], [fp1, fq1], sl1, false⟩ : Bl) = ac1) (hal1 : alongOf (⟨tb1, [lg1, wd1, lg1, wd1], hh1, [fp1, fp1], [fp1, fq1], sl1, false⟩ : Bl) = al1) (hA1 : ac1 * al1 = A1) (gA1 : 1 ≤ A1 ∧ A1 ≤ 1000000) (hbr1 : (A1 + 99) / 100 = br1) (hq1 : QuIn (quA q br1)) (hp1 : priceQ (quA q br1) (1 + (v4 * 7)) = p1) (gp1 : 0 ≤ p1 ∧ p1 ≤ 600000000001) (hpn1 : (pn1 : Int) = p1) (hgg1 : ((Nat.gcd pn1 nn : Nat) : Int) = gg1) (ggg1 : 1 ≤ gg1 ∧ gg1 ≤ 100000) (hrr1 : p1 / gg1 = rr1) (hdd1 : (1 + (v4 * 7)) / gg1 = dd1) (grr1 : 0 ≤ rr1 ∧ rr1 ≤ 600000000001) (gdd1 : 0 ≤ dd1 ∧ dd1 ≤ 100000) (grp1 : rr1 ≤ p1) (gd11 : 1 ≤ dd1) (gdn1 : dd1 ≤ (1 + (v4 * 7))) (hrn1 : rr1 * (1 + (v4 * 7)) = p1 * dd1) (gpd1 : -9223372036854775808 ≤ p1 * dd1 ∧ p1 * dd1 ≤ 9223372036854775807) (gan1 : 1 ≤ an1 ∧ an1 ≤ 100000) (hmm1 : MostAt (quA q br1) p1 an1) (hnn : (nn : Int) = (1 + (v4 * 7))) (hA01 : A0 < A1) (hp01 : p0 ≤ p1) (ha01 : an1 ≤ an0) (hna : (1 + (v4 * 7)) ≤ an1) :
  Calls Try.prog 3 #[.agg #[.int .u8 ((fv 0)), .int .u8 ((fv 1)), .int .u8 ((fv 2)), .int .u8 ((fv 3)), .int .u8 ((fv 4)), .int .u8 ((fv 5)), .int .u8 ((fv 6)), .int .u8 ((fv 7)), .int .u8 ((fv 8)), .int .u8 ((fv 9)), .int .u8 ((fv 10)), .int .u8 ((fv 11)), .int .u8 ((fv 12)), .int .u8 ((fv 13)), .int .u8 ((fv 14)), .int .u8 ((fv 15)), .int .u8 ((fv 16)), .int .u8 ((fv 17)), .int .u8 ((fv 18)), .int .u8 ((fv 19)), .int .u8 ((fv 20)), .int .u8 ((fv 21)), .int .u8 ((fv 22)), .int .u8 ((fv 23)), .int .u8 ((fv 24))], .int .u8 mv, .agg #[.int .u8 v0, .int .u8 v1, .int .u8 v2, .int .u8 v3, .int .u8 v4]] w (fun e w' => e = .returned (.bool true) ∧ Below w.heap.size w w') := by
 have gn : 1 ≤ (1 + (v4 * 7)) ∧ (1 + (v4 * 7)) ≤ 100000 := by omega
 have gmo : 0 ≤ mo ∧ mo ≤ 49 := by omega
 have hd0_0 : (decide (A0 < 1)) = false := decide_eq_false (by omega)
 have hd0_1 : (decide (p0 < 0)) = false := decide_eq_false (by omega)
 have hd0_2 : (decide (dd0 < 1)) = false := decide_eq_false (by omega)
 have hd0_3 : (decide ((1 + (v4 * 7)) < dd0)) = false := decide_eq_false (by omega)
 have hd0_4 : (decide (rr0 < 0)) = false := decide_eq_false (by omega)
 have hd0_5 : (decide (p0 < rr0)) = false := decide_eq_false (by omega)
 have hd0_9 : ((rr0 * (1 + (v4 * 7))) != (p0 * dd0)) = false := bne_eq_false_iff_eq.2 hrn0
 have hd1_0 : (decide (A1 < 1)) = false := decide_eq_false (by omega)
 have hd1_1 : (decide (p1 < 0)) = false := decide_eq_false (by omega)
 have hd1_2 : (decide (dd1 < 1)) = false := decide_eq_false (by omega)
 have hd1_3 : (decide ((1 + (v4 * 7)) < dd1)) = false := decide_eq_false (by omega)
 have hd1_4 : (decide (rr1 < 0)) = false := decide_eq_false (by omega)
 have hd1_5 : (decide (p1 < rr1)) = false := decide_eq_false (by omega)
 have hd1_9 : ((rr1 * (1 + (v4 * 7))) != (p1 * dd1)) = false := bne_eq_false_iff_eq.2 hrn1
 have hd2_0 : (decide (A1 ≤ A0)) = false := decide_eq_false (by omega)
 have hd2_1 : (decide (p1 < p0)) = false := decide_eq_false (by omega)
 have hd2_2 : (decide (an1 ≤ an0)) = true := decide_eq_true (by omega)
 have hd2_3 : (decide ((1 + (v4 * 7)) ≤ an1)) = true := decide_eq_true (by omega)
 refine calls_fr Try.func3 Try.ntmps3 rfl rfl fun g hg => ?_
 have k0 : g 0 = .agg #[.int .u8 ((fv 0)), .int .u8 ((fv 1)), .int .u8 ((fv 2)), .int .u8 ((fv 3)), .int .u8 ((fv 4)), .int .u8 ((fv 5)), .int .u8 ((fv 6)), .int .u8 ((fv 7)), .int .u8 ((fv 8)), .int .u8 ((fv 9)), .int .u8 ((fv 10)), .int .u8 ((fv 11)), .int .u8 ((fv 12)), .int .u8 ((fv 13)), .int .u8 ((fv 14)), .int .u8 ((fv 15)), .int .u8 ((fv 16)), .int .u8 ((fv 17)), .int .u8 ((fv 18)), .int .u8 ((fv 19)), .int .u8 ((fv 20)), .int .u8 ((fv 21)), .int .u8 ((fv 22)), .int .u8 ((fv 23)), .int .u8 ((fv 24))] := hg 0
 have k1 : g 1 = .int .u8 mv := hg 1
 have k2 : g 2 = .agg #[.int .u8 v0, .int .u8 v1, .int .u8 v2, .int .u8 v3, .int .u8 v4] := hg 2
 clear hg
 have fB0 : Below w.heap.size w w := Below.refl _ _
 refine wp_seq_k fun K1 hK1 => ?_
 as_aux_lemma =>
 refine region_dk 3 [(3, 0), (5, 1), (6, 2)] [[], [], []] (rel [bx 0 #[.int .u8 ((fv 0)), .int .u8 ((fv 1)), .int .u8 ((fv 2)), .int .u8 ((fv 3)), .int .u8 ((fv 4)), .int .u8 ((fv 5)), .int .u8 ((fv 6)), .int .u8 ((fv 7)), .int .u8 ((fv 8)), .int .u8 ((fv 9)), .int .u8 ((fv 10)), .int .u8 ((fv 11)), .int .u8 ((fv 12)), .int .u8 ((fv 13)), .int .u8 ((fv 14)), .int .u8 ((fv 15)), .int .u8 ((fv 16)), .int .u8 ((fv 17)), .int .u8 ((fv 18)), .int .u8 ((fv 19)), .int .u8 ((fv 20)), .int .u8 ((fv 21)), .int .u8 ((fv 22)), .int .u8 ((fv 23)), .int .u8 ((fv 24))] 28,
   bx 1 #[.int .u8 v0, .int .u8 v1, .int .u8 v2, .int .u8 v3, .int .u8 v4] 29,
   is (.bool false)])
  ⟨bx_k, bx_k, is_k, trivial⟩
  ⟨fun f s W hW j m n p i => opb rfl rfl (by simp [go_sem, i.e 0 k0]),
  fun f s W hW j m n p i => opb rfl rfl (by simp [go_sem, i.e 2 k2]),
  fun f s W hW j m n p i => opv rfl rfl (by simp [go_sem]) rfl, trivial⟩ ?_
 intro f1 s1 W1 hB1 g1 hg1
 have fB1 := hB1.f fB0
 have z1 := hB1.below.size
 obtain ⟨r1_0, br1_0⟩ := hB1.is 0
 have lr1_0 := hB1.lr 0 br1_0
 obtain ⟨r1_1, br1_1⟩ := hB1.is 1
 have lr1_1 := hB1.lr 1 br1_1
 have ne1_0_1 := hB1.nb 0 1
 refine hK1 _ _ ?_
 have k1_1 := kt hg1 1 k1
 have k1_3 := kt hg1 3 r1_0
 have k1_5 := kt hg1 5 r1_1
 have k1_6 := kt hg1 6 (hB1.is 2)
 refine wp_seq_k fun K2 hK2 => ?_
 as_aux_lemma =>
 refine region_doL (LeT (W1.heap.size) 32 (quG (q))) LeT.refl (LeT.drew quG_b) LeT.trans (fun _ _ h => h.size) 17 [(27, 0), (28, 1), (29, 2), (30, 3), (31, 4), (32, 5), (33, 6), (34, 7), (35, 8), (36, 9), (37, 10), (38, 11), (39, 12), (40, 13), (41, 14), (7, 15), (8, 17)] [[], [0], [], [2], [], [4], [], [6], [0, 1, 2, 3, 4, 5, 6, 7], [0, 1, 2, 3, 4, 5, 6, 7, 8], [], [10], [10, 11], [10, 11, 12], [10, 11, 12, 13], [], [0, 1, 2, 3, 4, 5, 6, 7, 8, 9, 15], [0, 1, 2, 3, 4, 5, 6, 7, 8, 9, 10, 11, 12, 13, 14, 15, 16]] (rel [is (.pointer (some ⟨(s1 1), 0, none⟩)),
   is (.int .u8 v0),
   is (.pointer (some ⟨(s1 1), 1, none⟩)),
   is (.int .u8 v1),
   is (.pointer (some ⟨(s1 1), 2, none⟩)),
   is (.int .u8 v2),
   is (.pointer (some ⟨(s1 1), 3, none⟩)),
   is (.int .u8 v3),
   is (.agg #[.int .u8 v0, .int .u8 v1, .int .u8 v2, .int .u8 v3]),
   ab fun v W => QuO q v W,
   is (.pointer (some ⟨(s1 1), 4, none⟩)),
   is (.int .u8 v4),
   is (.int .i64 v4),
   is (.int .i64 (v4 * 7)),
   is (.int .i64 (1 + (v4 * 7))),
   boxT (W1.heap.size) 32 11 15,
   stoT (W1.heap.size) 32 (quG (q)) 15]) (by kernel_rfl) (by kernel_rfl) (by kernel_rfl) (by kernel_rfl)
  ⟨is_kl, is_kl, is_kl, is_kl, is_kl, is_kl, is_kl, is_kl, is_kl, abt_k fun v W W' hb h => QuO.leT h hb, is_kl, is_kl, is_kl, is_kl, is_kl, boxT_k, stoT_k (by simp), trivial⟩
  ⟨fun f s W hT j m n p i => by have hW := LeT.below hT (Nat.le_refl _); exact OpDo.l (LeT.of_below quG_b) (opv rfl rfl (by simp [go_sem, i.e 5 k1_5]) rfl),
  fun f s W hT j m n p i => by have hW := LeT.below hT (Nat.le_refl _); exact OpDo.l (LeT.of_below quG_b) (opv rfl rfl (by simp [go_sem, i.e 27 (j 0 rfl), cb br1_1 hW 0]) rfl),
  fun f s W hT j m n p i => by have hW := LeT.below hT (Nat.le_refl _); exact OpDo.l (LeT.of_below quG_b) (opv rfl rfl (by simp [go_sem, i.e 5 k1_5]) rfl),
  fun f s W hT j m n p i => by have hW := LeT.below hT (Nat.le_refl _); exact OpDo.l (LeT.of_below quG_b) (opv rfl rfl (by simp [go_sem, i.e 29 (j 2 rfl), cb br1_1 hW 1]) rfl),
  fun f s W hT j m n p i => by have hW := LeT.below hT (Nat.le_refl _); exact OpDo.l (LeT.of_below quG_b) (opv rfl rfl (by simp [go_sem, i.e 5 k1_5]) rfl),
  fun f s W hT j m n p i => by have hW := LeT.below hT (Nat.le_refl _); exact OpDo.l (LeT.of_below quG_b) (opv rfl rfl (by simp [go_sem, i.e 31 (j 4 rfl), cb br1_1 hW 2]) rfl),
  fun f s W hT j m n p i => by have hW := LeT.below hT (Nat.le_refl _); exact OpDo.l (LeT.of_below quG_b) (opv rfl rfl (by simp [go_sem, i.e 5 k1_5]) rfl),
  fun f s W hT j m n p i => by have hW := LeT.below hT (Nat.le_refl _); exact OpDo.l (LeT.of_below quG_b) (opv rfl rfl (by simp [go_sem, i.e 33 (j 6 rfl), cb br1_1 hW 3]) rfl),
  fun f s W hT j m n p i => by have hW := LeT.below hT (Nat.le_refl _); exact OpDo.l (LeT.of_below quG_b) (opv rfl rfl (by simp [go_sem, i.e 28 (j 1 rfl), i.e 30 (j 3 rfl), i.e 32 (j 5 rfl), i.e 34 (j 7 rfl)]) rfl),
  fun f s W hT j m n p i => by have hW := LeT.below hT (Nat.le_refl _); exact OpDo.l (LeT.of_below quG_b) (opDo_call rfl rfl (by simp [go_sem, i.e 35 (j 8 rfl)]) (hquo W) ((fun e W' h => by obtain ⟨v, e1, h1, h2⟩ := h; exact ⟨_, e1, h2, h1⟩))),
  fun f s W hT j m n p i => by have hW := LeT.below hT (Nat.le_refl _); exact OpDo.l (LeT.of_below quG_b) (opv rfl rfl (by simp [go_sem, i.e 5 k1_5]) rfl),
  fun f s W hT j m n p i => by have hW := LeT.below hT (Nat.le_refl _); exact OpDo.l (LeT.of_below quG_b) (opv rfl rfl (by simp [go_sem, i.e 37 (j 10 rfl), cb br1_1 hW 4]) rfl),
  fun f s W hT j m n p i => by have hW := LeT.below hT (Nat.le_refl _); exact OpDo.l (LeT.of_below quG_b) (by have cv_ := IntWalk.i64_in v4 (by omega); exact opv rfl rfl (by simp [go_sem, i.e 38 (j 11 rfl), cv_]) rfl),
  fun f s W hT j m n p i => by have hW := LeT.below hT (Nat.le_refl _); exact OpDo.l (LeT.of_below quG_b) (opv rfl rfl (by simp [go_sem, i.e 39 (j 12 rfl), IntWalk.i64_in (v4 * 7) (by omega)]) rfl),
  fun f s W hT j m n p i => by have hW := LeT.below hT (Nat.le_refl _); exact OpDo.l (LeT.of_below quG_b) (opv rfl rfl (by simp [go_sem, i.e 40 (j 13 rfl), IntWalk.i64_in (1 + (v4 * 7)) (by omega)]) rfl),
  fun f s W hT j m n p i => opT (cs := #[.int .i64 0, .int .i64 0, .int .i64 0, .int .i64 0, .int .i64 0, .int .i64 0, .int .i64 0, .int .i64 0, .int .i64 0, .int .i64 0, .slice (none) (0) (0)]) quG_b (hT.size) rfl rfl (by simp [go_sem]) rfl,
  fun f s W hT j m n p i => by obtain ⟨g1', c2', dv, q3'⟩ := (j 9 rfl); exact stoT_do (#[.int .i64 q.ar, .int .i64 q.bo, .int .i64 q.wa, .int .i64 q.tl, .int .i64 q.se, .int .i64 q.ru, .int .i64 q.wo, .int .i64 q.pl, .int .i64 q.fr, .int .i64 q.ma, .slice (some ⟨g1', 0, none⟩) (1) (c2')]) rfl (by decide) (j 15 rfl) (i.v 7 (j 15 rfl).1) (i.v 36 dv) rfl rfl (by rfl) (by rfl) ((show quG (q) #[.int .i64 q.ar, .int .i64 q.bo, .int .i64 q.wa, .int .i64 q.tl, .int .i64 q.se, .int .i64 q.ru, .int .i64 q.wo, .int .i64 q.pl, .int .i64 q.fr, .int .i64 q.ma, .slice (some ⟨g1', 0, none⟩) (1) (c2')] W from ⟨g1', c2', rfl, q3'⟩)) (fun _ hot _ h => quG_s hot ((j 15 rfl).2.2.imp fun _ e => e.1) h) (fun _ _ hot _ hb h => quG_s hot hb h), trivial⟩ ?_
 intro f2 s2 W2 hB2
 have hb2 := LeT.below hB2.le (Nat.le_refl _)
 have fB2 := below_trans fB1 hb2
 have z2 : W1.heap.size ≤ W2.heap.size := hb2.size
 have b2_0 := blk_below br1_0 hb2
 have b2_1 := blk_below br1_1 hb2
 obtain ⟨r2_15, lb2, -⟩ := hB2.is 15
 obtain ⟨-, cs2, bs2, hG2⟩ := hB2.is 16
 have hY2 : QuO (q) (.agg cs2) W2 := hG2
 obtain ⟨g4', c5', eY2, q6'⟩ := hY2
 obtain rfl := Value.agg.inj eY2
 have lt_g4 := lt_of_blk q6'
 have lr2_15 : W1.heap.size ≤ s2 15 ∧ s2 15 < W2.heap.size := ⟨lb2, lt_of_blk bs2⟩
 generalize hg2 : ov [(27, 0), (28, 1), (29, 2), (30, 3), (31, 4), (32, 5), (33, 6), (34, 7), (35, 8), (36, 9), (37, 10), (38, 11), (39, 12), (40, 13), (41, 14), (7, 15), (8, 17)] f2 g1 = g2
 have k2_1 := kt hg2 1 k1_1
 have k2_3 := kt hg2 3 k1_3
 have k2_6 := kt hg2 6 k1_6
 have k2_7 := kt hg2 7 r2_15
 have k2_41 := kt hg2 41 (hB2.is 14)
 refine tail_value (o := _) rfl rfl rfl (v := .int .i64 (1 + (v4 * 7))) (by simp [go_sem, frv 193 k2_41]) ?_
 generalize hg3 : upd g2 8 (.int .i64 (1 + (v4 * 7))) = g3
 have k3_1 := ku hg3 1 k2_1
 have k3_3 := ku hg3 3 k2_3
 have k3_6 := ku hg3 6 k2_6
 have k3_7 := ku hg3 7 k2_7
 have k3_8 := kt hg3 8 (upd_same _ _ _)
 refine wpOps_end ?_
 refine hK2 _ _ ?_
 refine wp_seq_k fun K3 hK3 => ?_
 as_aux_lemma =>
 refine region_dk 4 [(42, 0), (43, 1), (9, 2), (10, 3)] [[], [], [], [], [0, 2, 3], [0, 1, 2, 3, 4]] (rel [is (.agg #[.int .i64 0, .int .i64 0]),
   is (.agg #[.int .i64 0, .int .i64 0]),
   bx 2 #[.int .i64 0, .int .i64 0] 34,
   bx 3 #[.int .i64 0, .int .i64 0] 34])
  ⟨is_k, is_k, bx_k, bx_k, trivial⟩
  ⟨fun f s W hW j m n p i => opv rfl rfl (by simp [go_sem]) rfl,
  fun f s W hW j m n p i => opv rfl rfl (by simp [go_sem]) rfl,
  fun f s W hW j m n p i => opb rfl rfl (by simp [go_sem]),
  fun f s W hW j m n p i => opb rfl rfl (by simp [go_sem]), trivial⟩ ?_
 intro f4 s4 W4 hB4 g4 hg4
 have fB4 := hB4.f fB2
 have z4 := hB4.below.size
 have b4_0 := hB4.b b2_0
 have b4_1 := hB4.b b2_1
 have b4_2 := hB4.b q6'
 have b4_3 := hB4.b bs2
 obtain ⟨r4_2, br4_2⟩ := hB4.is 2
 have lr4_2 := hB4.lr 2 br4_2
 obtain ⟨r4_3, br4_3⟩ := hB4.is 3
 have lr4_3 := hB4.lr 3 br4_3
 have ne4_2_3 := hB4.nb 2 3
 have k4_1 := kt hg4 1 k3_1
 have k4_3 := kt hg4 3 k3_3
 have k4_6 := kt hg4 6 k3_6
 have k4_7 := kt hg4 7 k3_7
 have k4_8 := kt hg4 8 k3_8
 have k4_42 := kt hg4 42 (hB4.is 0)
 have k4_43 := kt hg4 43 (hB4.is 1)
 have k4_9 := kt hg4 9 r4_2
 have k4_10 := kt hg4 10 r4_3
 obtain ⟨W5, hW5⟩ : ∃ W', W' = W4.setRow (s4 2) #[.int .i64 0, .int .i64 0] := ⟨_, rfl⟩
 refine tail_skip (o := _) rfl ⟨rfl, rfl⟩ (run_seg hW5 (fr_ev k4_9) (fr_ev k4_42) br4_2 rfl rfl rfl rfl) ?_
 obtain ⟨fB5, nb5, ot5, z5⟩ := seg_facts hW5 fB4 br4_2 (by omega)
 clear hW5
 have b5_0 := ot5 _ _ (by omega) b4_0
 have b5_1 := ot5 _ _ (by omega) b4_1
 have b5_2 := ot5 _ _ (by omega) b4_2
 have b5_3 := ot5 _ _ (by omega) b4_3
 have b5_5 := ot5 _ _ (by omega) br4_3
 obtain ⟨W6, hW6⟩ : ∃ W', W' = W5.setRow (s4 3) #[.int .i64 0, .int .i64 0] := ⟨_, rfl⟩
 refine tail_skip (o := _) rfl ⟨rfl, rfl⟩ (run_seg hW6 (fr_ev k4_10) (fr_ev k4_43) b5_5 rfl rfl rfl rfl) ?_
 obtain ⟨fB6, nb6, ot6, z6⟩ := seg_facts hW6 fB5 b5_5 (by omega)
 clear hW6
 have b6_0 := ot6 _ _ (by omega) b5_0
 have b6_1 := ot6 _ _ (by omega) b5_1
 have b6_2 := ot6 _ _ (by omega) b5_2
 have b6_3 := ot6 _ _ (by omega) b5_3
 have b6_4 := ot6 _ _ (by omega) nb5
 refine wpOps_end ?_
 refine hK3 _ _ ?_
 refine wp_seq_k fun K4 hK4 => ?_
 as_aux_lemma =>
 refine region_dk 2 [(44, 0), (11, 1)] [[], [], [0, 1]] (rel [is (.agg #[.int .i64 0, .int .i64 0, .int .i64 0, .int .i64 0, .int .i64 0, .int .i64 0, .int .i64 0, .int .i64 0, .int .i64 0, .int .i64 0, .slice (none) (0) (0), .int .i64 0, .int .i64 0, .int .i64 0, .int .i64 0, .int .i64 0, .int .i64 0, .int .i64 0, .int .i64 0, .int .i64 0, .int .i64 0, .slice (none) (0) (0)]),
   bx 1 #[.int .i64 0, .int .i64 0, .int .i64 0, .int .i64 0, .int .i64 0, .int .i64 0, .int .i64 0, .int .i64 0, .int .i64 0, .int .i64 0, .slice (none) (0) (0), .int .i64 0, .int .i64 0, .int .i64 0, .int .i64 0, .int .i64 0, .int .i64 0, .int .i64 0, .int .i64 0, .int .i64 0, .int .i64 0, .slice (none) (0) (0)] 35])
  ⟨is_k, bx_k, trivial⟩
  ⟨fun f s W hW j m n p i => opv rfl rfl (by simp [go_sem]) rfl,
  fun f s W hW j m n p i => opb rfl rfl (by simp [go_sem]), trivial⟩ ?_
 intro f7 s7 W7 hB7 g7 hg7
 have fB7 := hB7.f fB6
 have z7 := hB7.below.size
 have b7_0 := hB7.b b6_0
 have b7_1 := hB7.b b6_1
 have b7_2 := hB7.b b6_2
 have b7_3 := hB7.b b6_3
 have b7_4 := hB7.b b6_4
 have b7_5 := hB7.b nb6
 obtain ⟨r7_1, br7_1⟩ := hB7.is 1
 have lr7_1 := hB7.lr 1 br7_1
 have k7_1 := kt hg7 1 k4_1
 have k7_3 := kt hg7 3 k4_3
 have k7_6 := kt hg7 6 k4_6
 have k7_7 := kt hg7 7 k4_7
 have k7_8 := kt hg7 8 k4_8
 have k7_9 := kt hg7 9 k4_9
 have k7_10 := kt hg7 10 k4_10
 have k7_44 := kt hg7 44 (hB7.is 0)
 have k7_11 := kt hg7 11 r7_1
 obtain ⟨W8, hW8⟩ : ∃ W', W' = W7.setRow (s7 1) #[.int .i64 0, .int .i64 0, .int .i64 0, .int .i64 0, .int .i64 0, .int .i64 0, .int .i64 0, .int .i64 0, .int .i64 0, .int .i64 0, .slice (none) (0) (0), .int .i64 0, .int .i64 0, .int .i64 0, .int .i64 0, .int .i64 0, .int .i64 0, .int .i64 0, .int .i64 0, .int .i64 0, .int .i64 0, .slice (none) (0) (0)] := ⟨_, rfl⟩
 refine tail_skip (o := _) rfl ⟨rfl, rfl⟩ (run_seg hW8 (fr_ev k7_11) (fr_ev k7_44) br7_1 rfl rfl rfl rfl) ?_
 obtain ⟨fB8, nb8, ot8, z8⟩ := seg_facts hW8 fB7 br7_1 (by omega)
 clear hW8
 have b8_0 := ot8 _ _ (by omega) b7_0
 have b8_1 := ot8 _ _ (by omega) b7_1
 have b8_2 := ot8 _ _ (by omega) b7_2
 have b8_3 := ot8 _ _ (by omega) b7_3
 have b8_4 := ot8 _ _ (by omega) b7_4
 have b8_5 := ot8 _ _ (by omega) b7_5
 refine wpOps_end ?_
 refine hK4 _ _ ?_
 refine wp_seq_k fun K5 hK5 => ?_
 refine wp_seq_k fun K6 hK6 => ?_
 as_aux_lemma =>
 refine region_dk 1 [(12, 0)] [[]] (rel [is (.int .i64 0)])
  ⟨is_k, trivial⟩
  ⟨fun f s W hW j m n p i => opv rfl rfl (by simp [go_sem]) rfl, trivial⟩ ?_
 intro f9 s9 W9 hB9 g9 hg9
 have fB9 := hB9.f fB8
 have z9 := hB9.below.size
 have b9_0 := hB9.b b8_0
 have b9_1 := hB9.b b8_1
 have b9_2 := hB9.b b8_2
 have b9_3 := hB9.b b8_3
 have b9_4 := hB9.b b8_4
 have b9_5 := hB9.b b8_5
 have b9_6 := hB9.b nb8
 refine hK6 _ _ ?_
 have k9_1 := kt hg9 1 k7_1
 have k9_3 := kt hg9 3 k7_3
 have k9_6 := kt hg9 6 k7_6
 have k9_7 := kt hg9 7 k7_7
 have k9_8 := kt hg9 8 k7_8
 have k9_9 := kt hg9 9 k7_9
 have k9_10 := kt hg9 10 k7_10
 have k9_11 := kt hg9 11 k7_11
 have k9_12 := kt hg9 12 (hB9.is 0)
 refine wp_block ?_
 refine wp_loop_rounds 3 ?_
 rw [rounds_succ]
 refine wp_seq_k fun K7 hK7 => ?_
 refine wp_seq_k fun K8 hK8 => ?_
 as_aux_lemma =>
 refine region_dk 2 [(45, 0), (46, 1)] [[], [0]] (rel [is (.int .i64 0),
   is (.bool true)])
  ⟨is_k, is_k, trivial⟩
  ⟨fun f s W hW j m n p i => opv rfl rfl (by simp [go_sem, i.e 12 k9_12]) rfl,
  fun f s W hW j m n p i => opv rfl rfl (by simp [go_sem, i.e 45 (j 0 rfl)]) rfl, trivial⟩ ?_
 intro f10 s10 W10 hB10 g10 hg10
 have fB10 := hB10.f fB9
 have z10 := hB10.below.size
 have b10_0 := hB10.b b9_0
 have b10_1 := hB10.b b9_1
 have b10_2 := hB10.b b9_2
 have b10_3 := hB10.b b9_3
 have b10_4 := hB10.b b9_4
 have b10_5 := hB10.b b9_5
 have b10_6 := hB10.b b9_6
 refine hK8 _ _ ?_
 have k10_1 := kt hg10 1 k9_1
 have k10_3 := kt hg10 3 k9_3
 have k10_6 := kt hg10 6 k9_6
 have k10_7 := kt hg10 7 k9_7
 have k10_8 := kt hg10 8 k9_8
 have k10_9 := kt hg10 9 k9_9
 have k10_10 := kt hg10 10 k9_10
 have k10_11 := kt hg10 11 k9_11
 have k10_12 := kt hg10 12 k9_12
 have k10_46 := kt hg10 46 (hB10.is 1)
 refine wp_cond_true ((fr_eval rfl).trans k10_46) ?_
 refine wp_skip ?_
 refine hK7 _ _ ?_
 refine wp_seq_k fun K10 hK10 => ?_
 refine wp_block ?_
 refine wp_seq_k fun K11 hK11 => ?_
 as_aux_lemma =>
 refine region_dk 18 [(50, 0), (51, 1), (52, 2), (53, 3), (54, 4), (55, 5), (56, 6), (57, 7), (58, 8), (49, 9), (59, 10), (60, 11), (61, 12), (62, 13), (13, 14), (14, 15), (15, 16), (16, 17)] [[], [], [], [2], [2, 3], [2, 3, 4], [1, 2, 3, 4, 5], [0, 1, 2, 3, 4, 5, 6], [0, 1, 2, 3, 4, 5, 6, 7], [0, 1, 2, 3, 4, 5, 6, 7, 8], [0, 1, 2, 3, 4, 5, 6, 7, 8, 9], [0, 1, 2, 3, 4, 5, 6, 7, 8, 9], [0, 1, 2, 3, 4, 5, 6, 7, 8, 9], [0, 1, 2, 3, 4, 5, 6, 7, 8, 9], [0, 1, 2, 3, 4, 5, 6, 7, 8, 9, 10], [0, 1, 2, 3, 4, 5, 6, 7, 8, 9, 10, 11, 14], [0, 1, 2, 3, 4, 5, 6, 7, 8, 9, 10, 11, 12, 14, 15], [0, 1, 2, 3, 4, 5, 6, 7, 8, 9, 10, 11, 12, 13, 14, 15, 16]] (rel [is (.agg #[.int .u8 ((fv 0)), .int .u8 ((fv 1)), .int .u8 ((fv 2)), .int .u8 ((fv 3)), .int .u8 ((fv 4)), .int .u8 ((fv 5)), .int .u8 ((fv 6)), .int .u8 ((fv 7)), .int .u8 ((fv 8)), .int .u8 ((fv 9)), .int .u8 ((fv 10)), .int .u8 ((fv 11)), .int .u8 ((fv 12)), .int .u8 ((fv 13)), .int .u8 ((fv 14)), .int .u8 ((fv 15)), .int .u8 ((fv 16)), .int .u8 ((fv 17)), .int .u8 ((fv 18)), .int .u8 ((fv 19)), .int .u8 ((fv 20)), .int .u8 ((fv 21)), .int .u8 ((fv 22)), .int .u8 ((fv 23)), .int .u8 ((fv 24))]),
   is (.int .i64 0),
   is (.int .u8 mv),
   is (.int .i64 mv),
   is (.int .i64 mo),
   is (.int .i64 (1 + mo)),
   is (.int .i64 0),
   ab fun v W => BoxO 0 tb0 lg0 wd0 hh0 fp0 fq0 sl0 v W,
   is (.tuple #[.int .i64 ac0, .int .i64 al0, .int .i64 A0, .int .i64 0]),
   is (.tuple #[.int .i64 ac0, .int .i64 al0, .int .i64 A0, .int .i64 0]),
   is (.int .i64 ac0),
   is (.int .i64 al0),
   is (.int .i64 A0),
   is (.int .i64 0),
   is (.int .i64 ac0),
   is (.int .i64 al0),
   is (.int .i64 A0),
   is (.int .i64 0)])
  ⟨is_k, is_k, is_k, is_k, is_k, is_k, is_k, ab_k fun v W W' hb h => h.below hb, is_k, is_k, is_k, is_k, is_k, is_k, is_k, is_k, is_k, is_k, trivial⟩
  ⟨fun f s W hW j m n p i => opl rfl rfl rfl (i.v 3 k10_3) (blk_below b10_0 hW) Try.underlying28 rfl (by kernel_rfl) rfl,
  fun f s W hW j m n p i => opv rfl rfl (by simp [go_sem, i.e 12 k10_12]) rfl,
  fun f s W hW j m n p i => opv rfl rfl (by simp [go_sem, i.e 1 k10_1]) rfl,
  fun f s W hW j m n p i => by have cv_ := IntWalk.i64_in mv (by omega); exact opv rfl rfl (by simp [go_sem, i.e 52 (j 2 rfl), cv_]) rfl,
  fun f s W hW j m n p i => by have qu_ : (mv).tmod 50 = mo := (Int.tmod_eq_emod_of_nonneg (by omega)).trans hmo; have qw_ := IntWalk.i64_in mo (by omega); exact opv rfl rfl (by simp [go_sem, i.e 53 (j 3 rfl), qu_, qw_]) rfl,
  fun f s W hW j m n p i => opv rfl rfl (by simp [go_sem, i.e 54 (j 4 rfl), IntWalk.i64_in (1 + mo) (by omega)]) rfl,
  fun f s W hW j m n p i => opv rfl rfl (by simp [go_sem, i.e 51 (j 1 rfl), i.e 55 (j 5 rfl), IntWalk.i64_in (0) (by omega)]) rfl,
  fun f s W hW j m n p i => opDo_call rfl rfl (by simp [go_sem, i.e 50 (j 0 rfl), i.e 56 (j 6 rfl)]) (hbox0 W) ((fun e W' h => by obtain ⟨v, e1, h1, h2⟩ := h; exact ⟨_, e1, h2, h1.low (Nat.zero_le _)⟩)),
  fun f s W hW j m n p i => by obtain ⟨g7', c10', g8', c11', g9', c12', d7, q13', q14', q15'⟩ := (j 7 rfl); exact opDo_call (args := #[.agg #[.int .i64 tb0, .slice (some ⟨g7', 0, none⟩) (4) (c10'), .int .i64 hh0, .slice (some ⟨g8', 0, none⟩) (2) (c11'), .slice (some ⟨g9', 0, none⟩) (2) (c12'), .int .i64 sl0, .bool false]]) rfl rfl (by simp [go_sem, i.e 57 d7]) (size_any _ (⟨tb0, [lg0, wd0, lg0, wd0], hh0, [fp0, fp0], [fp0, fq0], sl0, false⟩ : Bl) W ⟨_, _, _, _, _, _, _, _, _, rfl, q13'.ii, q14'.ii, q15'.ii⟩) ((fun e W' h => by have h1 := h.1; rw [if_pos hck0, hac0, hal0, hA0] at h1; exact ⟨_, h1, h.2, rfl⟩)),
  fun f s W hW j m n p i => opv rfl rfl (by simp [go_sem, i.e 58 (j 8 rfl)]) rfl,
  fun f s W hW j m n p i => opv rfl rfl (by simp [go_sem, i.e 49 (j 9 rfl)]) rfl,
  fun f s W hW j m n p i => opv rfl rfl (by simp [go_sem, i.e 49 (j 9 rfl)]) rfl,
  fun f s W hW j m n p i => opv rfl rfl (by simp [go_sem, i.e 49 (j 9 rfl)]) rfl,
  fun f s W hW j m n p i => opv rfl rfl (by simp [go_sem, i.e 49 (j 9 rfl)]) rfl,
  fun f s W hW j m n p i => opv rfl rfl (by simp [go_sem, i.e 59 (j 10 rfl)]) rfl,
  fun f s W hW j m n p i => opv rfl rfl (by simp [go_sem, i.e 60 (j 11 rfl)]) rfl,
  fun f s W hW j m n p i => opv rfl rfl (by simp [go_sem, i.e 61 (j 12 rfl)]) rfl,
  fun f s W hW j m n p i => opv rfl rfl (by simp [go_sem, i.e 62 (j 13 rfl)]) rfl, trivial⟩ ?_
 intro f11 s11 W11 hB11 g11 hg11
 have fB11 := hB11.f fB10
 have z11 := hB11.below.size
 have b11_0 := hB11.b b10_0
 have b11_1 := hB11.b b10_1
 have b11_2 := hB11.b b10_2
 have b11_3 := hB11.b b10_3
 have b11_4 := hB11.b b10_4
 have b11_5 := hB11.b b10_5
 have b11_6 := hB11.b b10_6
 refine hK11 _ _ ?_
 have k11_1 := kt hg11 1 k10_1
 have k11_3 := kt hg11 3 k10_3
 have k11_6 := kt hg11 6 k10_6
 have k11_7 := kt hg11 7 k10_7
 have k11_8 := kt hg11 8 k10_8
 have k11_9 := kt hg11 9 k10_9
 have k11_10 := kt hg11 10 k10_10
 have k11_11 := kt hg11 11 k10_11
 have k11_12 := kt hg11 12 k10_12
 have k11_46 := kt hg11 46 k10_46
 have k11_15 := kt hg11 15 (hB11.is 16)
 have k11_16 := kt hg11 16 (hB11.is 17)
 refine wp_seq_k fun K12 hK12 => ?_
 as_aux_lemma =>
 refine region_dk 2 [(63, 0), (17, 1)] [[], [], [0, 1]] (rel [is (.agg #[.int .i64 q.ar, .int .i64 q.bo, .int .i64 q.wa, .int .i64 q.tl, .int .i64 q.se, .int .i64 q.ru, .int .i64 q.wo, .int .i64 q.pl, .int .i64 q.fr, .int .i64 q.ma, .slice (some ⟨g4', 0, none⟩) (1) (c5')]),
   bx 1 #[.int .i64 0, .int .i64 0, .int .i64 0, .int .i64 0, .int .i64 0, .int .i64 0, .int .i64 0, .int .i64 0, .int .i64 0, .int .i64 0, .slice (none) (0) (0)] 32])
  ⟨is_k, bx_k, trivial⟩
  ⟨fun f s W hW j m n p i => opl rfl rfl rfl (i.v 7 k11_7) (blk_below b11_3 hW) Try.underlying32 rfl (by kernel_rfl) rfl,
  fun f s W hW j m n p i => opb rfl rfl (by simp [go_sem]), trivial⟩ ?_
 intro f12 s12 W12 hB12 g12 hg12
 have fB12 := hB12.f fB11
 have z12 := hB12.below.size
 have b12_0 := hB12.b b11_0
 have b12_1 := hB12.b b11_1
 have b12_2 := hB12.b b11_2
 have b12_3 := hB12.b b11_3
 have b12_4 := hB12.b b11_4
 have b12_5 := hB12.b b11_5
 have b12_6 := hB12.b b11_6
 obtain ⟨r12_1, br12_1⟩ := hB12.is 1
 have lr12_1 := hB12.lr 1 br12_1
 have k12_1 := kt hg12 1 k11_1
 have k12_3 := kt hg12 3 k11_3
 have k12_6 := kt hg12 6 k11_6
 have k12_7 := kt hg12 7 k11_7
 have k12_8 := kt hg12 8 k11_8
 have k12_9 := kt hg12 9 k11_9
 have k12_10 := kt hg12 10 k11_10
 have k12_11 := kt hg12 11 k11_11
 have k12_12 := kt hg12 12 k11_12
 have k12_46 := kt hg12 46 k11_46
 have k12_15 := kt hg12 15 k11_15
 have k12_16 := kt hg12 16 k11_16
 have k12_63 := kt hg12 63 (hB12.is 0)
 have k12_17 := kt hg12 17 r12_1
 obtain ⟨W13, hW13⟩ : ∃ W', W' = W12.setRow (s12 1) #[.int .i64 q.ar, .int .i64 q.bo, .int .i64 q.wa, .int .i64 q.tl, .int .i64 q.se, .int .i64 q.ru, .int .i64 q.wo, .int .i64 q.pl, .int .i64 q.fr, .int .i64 q.ma, .slice (some ⟨g4', 0, none⟩) (1) (c5')] := ⟨_, rfl⟩
 refine tail_skip (o := _) rfl ⟨rfl, rfl⟩ (run_seg hW13 (fr_ev k12_17) (fr_ev k12_63) br12_1 rfl rfl rfl rfl) ?_
 obtain ⟨fB13, nb13, ot13, z13⟩ := seg_facts hW13 fB12 br12_1 (by omega)
 clear hW13
 have b13_0 := ot13 _ _ (by omega) b12_0
 have b13_1 := ot13 _ _ (by omega) b12_1
 have b13_2 := ot13 _ _ (by omega) b12_2
 have b13_3 := ot13 _ _ (by omega) b12_3
 have b13_4 := ot13 _ _ (by omega) b12_4
 have b13_5 := ot13 _ _ (by omega) b12_5
 have b13_6 := ot13 _ _ (by omega) b12_6
 refine wpOps_end ?_
 refine hK12 _ _ ?_
 refine wp_seq_k fun K13 hK13 => ?_
 as_aux_lemma =>
 refine region_dk 4 [(64, 0), (65, 1), (66, 2), (67, 3)] [[], [0], [0, 1], [0, 1, 2], [0, 1, 2, 3]] (rel [is (.int .i64 A0),
   is (.int .i64 (A0 + 99)),
   is (.int .i64 br0),
   is (.pointer (some ⟨(s12 1), 0, none⟩))])
  ⟨is_k, is_k, is_k, is_k, trivial⟩
  ⟨fun f s W hW j m n p i => opv rfl rfl (by simp [go_sem, i.e 15 k12_15]) rfl,
  fun f s W hW j m n p i => opv rfl rfl (by simp [go_sem, i.e 64 (j 0 rfl), IntWalk.i64_in (A0 + 99) (by omega)]) rfl,
  fun f s W hW j m n p i => by have qu_ : (A0 + 99).tdiv 100 = br0 := (Int.tdiv_eq_ediv_of_nonneg (by omega)).trans hbr0; have qw_ := IntWalk.i64_in br0 (by omega); exact opv rfl rfl (by simp [go_sem, i.e 65 (j 1 rfl), qu_, qw_]) rfl,
  fun f s W hW j m n p i => opv rfl rfl (by simp [go_sem, i.e 17 k12_17]) rfl, trivial⟩ ?_
 intro f14 s14 W14 hB14 g14 hg14
 have fB14 := hB14.f fB13
 have z14 := hB14.below.size
 have b14_0 := hB14.b b13_0
 have b14_1 := hB14.b b13_1
 have b14_2 := hB14.b b13_2
 have b14_3 := hB14.b b13_3
 have b14_4 := hB14.b b13_4
 have b14_5 := hB14.b b13_5
 have b14_6 := hB14.b b13_6
 have b14_7 := hB14.b nb13
 have k14_1 := kt hg14 1 k12_1
 have k14_3 := kt hg14 3 k12_3
 have k14_6 := kt hg14 6 k12_6
 have k14_7 := kt hg14 7 k12_7
 have k14_8 := kt hg14 8 k12_8
 have k14_9 := kt hg14 9 k12_9
 have k14_10 := kt hg14 10 k12_10
 have k14_11 := kt hg14 11 k12_11
 have k14_12 := kt hg14 12 k12_12
 have k14_46 := kt hg14 46 k12_46
 have k14_15 := kt hg14 15 k12_15
 have k14_16 := kt hg14 16 k12_16
 have k14_63 := kt hg14 63 k12_63
 have k14_17 := kt hg14 17 k12_17
 have k14_66 := kt hg14 66 (hB14.is 2)
 have k14_67 := kt hg14 67 (hB14.is 3)
 obtain ⟨W15, hW15⟩ : ∃ W', W' = W14.setRow (s12 1) #[.int .i64 br0, .int .i64 q.bo, .int .i64 q.wa, .int .i64 q.tl, .int .i64 q.se, .int .i64 q.ru, .int .i64 q.wo, .int .i64 q.pl, .int .i64 q.fr, .int .i64 q.ma, .slice (some ⟨g4', 0, none⟩) (1) (c5')] := ⟨_, rfl⟩
 refine tail_skip (o := _) rfl ⟨rfl, rfl⟩ (run_seg hW15 (fr_ev k14_67) (fr_ev k14_66) b14_7 rfl rfl rfl rfl) ?_
 obtain ⟨fB15, nb15, ot15, z15⟩ := seg_facts hW15 fB14 b14_7 (by omega)
 clear hW15
 have b15_0 := ot15 _ _ (by omega) b14_0
 have b15_1 := ot15 _ _ (by omega) b14_1
 have b15_2 := ot15 _ _ (by omega) b14_2
 have b15_3 := ot15 _ _ (by omega) b14_3
 have b15_4 := ot15 _ _ (by omega) b14_4
 have b15_5 := ot15 _ _ (by omega) b14_5
 have b15_6 := ot15 _ _ (by omega) b14_6
 refine wpOps_end ?_
 refine hK13 _ _ ?_
 refine wp_seq_k fun K14 hK14 => ?_
 as_aux_lemma =>
 refine region_dk 9 [(69, 0), (70, 1), (71, 2), (72, 3), (68, 4), (73, 5), (74, 6), (75, 7), (18, 8), (19, 10), (20, 11)] [[], [0], [], [0, 1, 2], [0, 1, 2, 3], [0, 1, 2, 3, 4], [0, 1, 2, 3, 4], [0, 1, 2, 3, 4], [], [0, 1, 2, 3, 4, 5, 8], [0, 1, 2, 3, 4, 5, 6, 8, 9], [0, 1, 2, 3, 4, 5, 6, 7, 8, 9, 10]] (rel [is (.agg #[.int .i64 br0, .int .i64 q.bo, .int .i64 q.wa, .int .i64 q.tl, .int .i64 q.se, .int .i64 q.ru, .int .i64 q.wo, .int .i64 q.pl, .int .i64 q.fr, .int .i64 q.ma, .slice (some ⟨g4', 0, none⟩) (1) (c5')]),
   ab fun v W => QuV (quA q br0) v W,
   is (.int .i64 (1 + (v4 * 7))),
   is (.tuple #[.agg #[.int .i64 (boardQ (quA q br0) (1 + (v4 * 7))), .int .i64 ((quA q br0).tl), .int .i64 (setQ (quA q br0) (1 + (v4 * 7))), .int .i64 (workQ (quA q br0) (1 + (v4 * 7))), .int .i64 (frQ (quA q br0) (1 + (v4 * 7)))], .int .i64 p0, .int .i64 0]),
   is (.tuple #[.agg #[.int .i64 (boardQ (quA q br0) (1 + (v4 * 7))), .int .i64 ((quA q br0).tl), .int .i64 (setQ (quA q br0) (1 + (v4 * 7))), .int .i64 (workQ (quA q br0) (1 + (v4 * 7))), .int .i64 (frQ (quA q br0) (1 + (v4 * 7)))], .int .i64 p0, .int .i64 0]),
   is (.agg #[.int .i64 (boardQ (quA q br0) (1 + (v4 * 7))), .int .i64 ((quA q br0).tl), .int .i64 (setQ (quA q br0) (1 + (v4 * 7))), .int .i64 (workQ (quA q br0) (1 + (v4 * 7))), .int .i64 (frQ (quA q br0) (1 + (v4 * 7)))]),
   is (.int .i64 p0),
   is (.int .i64 0),
   bx 8 #[.int .i64 0, .int .i64 0, .int .i64 0, .int .i64 0, .int .i64 0] 44])
  ⟨is_k, ab_k fun v W W' hb h => h.below hb, is_k, is_k, is_k, is_k, is_k, is_k, bx_k, trivial⟩
  ⟨fun f s W hW j m n p i => opl rfl rfl rfl (i.v 17 k14_17) (blk_below nb15 hW) Try.underlying32 rfl (by kernel_rfl) rfl,
  fun f s W hW j m n p i => opDo_call (args := #[.agg #[.int .i64 br0, .int .i64 q.bo, .int .i64 q.wa, .int .i64 q.tl, .int .i64 q.se, .int .i64 q.ru, .int .i64 q.wo, .int .i64 q.pl, .int .i64 q.fr, .int .i64 q.ma, .slice (some ⟨g4', 0, none⟩) (1) (c5')]]) rfl rfl (by simp [go_sem, i.e 69 (j 0 rfl)]) ((pubSteps_ok (quA q br0) g4' 0 c5' W (step_of (blk_below b15_2 hW)) : Calls _ _ #[.agg #[.int .i64 br0, .int .i64 q.bo, .int .i64 q.wa, .int .i64 q.tl, .int .i64 q.se, .int .i64 q.ru, .int .i64 q.wo, .int .i64 q.pl, .int .i64 q.fr, .int .i64 q.ma, .slice (some ⟨g4', 0, none⟩) (1) (c5')]] W _)) ((fun e W' h => by obtain ⟨v, e1, h1, h2⟩ := h; exact ⟨_, e1, h2, h1⟩)),
  fun f s W hW j m n p i => opv rfl rfl (by simp [go_sem, i.e 8 k14_8]) rfl,
  fun f s W hW j m n p i => by obtain ⟨g16', o17', c18', d1, q19'⟩ := (j 1 rfl); exact opDo_call rfl rfl (by simp [go_sem, i.e 70 d1, i.e 71 (j 2 rfl)]) (Quote_ok (quA q br0) g16' o17' c18' (1 + (v4 * 7)) W q19' hq0 gn) ((fun e W' h => by have h1 := h.1; rw [hp0] at h1; exact ⟨_, h1, h.2, rfl⟩)),
  fun f s W hW j m n p i => opv rfl rfl (by simp [go_sem, i.e 72 (j 3 rfl)]) rfl,
  fun f s W hW j m n p i => opv rfl rfl (by simp [go_sem, i.e 68 (j 4 rfl)]) rfl,
  fun f s W hW j m n p i => opv rfl rfl (by simp [go_sem, i.e 68 (j 4 rfl)]) rfl,
  fun f s W hW j m n p i => opv rfl rfl (by simp [go_sem, i.e 68 (j 4 rfl)]) rfl,
  fun f s W hW j m n p i => opb rfl rfl (by simp [go_sem]), trivial⟩ ?_
 intro f16 s16 W16 hB16 g16 hg16
 have fB16 := hB16.f fB15
 have z16 := hB16.below.size
 have b16_0 := hB16.b b15_0
 have b16_1 := hB16.b b15_1
 have b16_2 := hB16.b b15_2
 have b16_3 := hB16.b b15_3
 have b16_4 := hB16.b b15_4
 have b16_5 := hB16.b b15_5
 have b16_6 := hB16.b b15_6
 have b16_7 := hB16.b nb15
 obtain ⟨r16_8, br16_8⟩ := hB16.is 8
 have lr16_8 := hB16.lr 8 br16_8
 have k16_1 := kt hg16 1 k14_1
 have k16_3 := kt hg16 3 k14_3
 have k16_6 := kt hg16 6 k14_6
 have k16_7 := kt hg16 7 k14_7
 have k16_8 := kt hg16 8 k14_8
 have k16_9 := kt hg16 9 k14_9
 have k16_10 := kt hg16 10 k14_10
 have k16_11 := kt hg16 11 k14_11
 have k16_12 := kt hg16 12 k14_12
 have k16_46 := kt hg16 46 k14_46
 have k16_15 := kt hg16 15 k14_15
 have k16_16 := kt hg16 16 k14_16
 have k16_63 := kt hg16 63 k14_63
 have k16_17 := kt hg16 17 k14_17
 have k16_66 := kt hg16 66 k14_66
 have k16_67 := kt hg16 67 k14_67
 have k16_73 := kt hg16 73 (hB16.is 5)
 have k16_74 := kt hg16 74 (hB16.is 6)
 have k16_75 := kt hg16 75 (hB16.is 7)
 have k16_18 := kt hg16 18 r16_8
 obtain ⟨W17, hW17⟩ : ∃ W', W' = W16.setRow (s16 8) #[.int .i64 (boardQ (quA q br0) (1 + (v4 * 7))), .int .i64 ((quA q br0).tl), .int .i64 (setQ (quA q br0) (1 + (v4 * 7))), .int .i64 (workQ (quA q br0) (1 + (v4 * 7))), .int .i64 (frQ (quA q br0) (1 + (v4 * 7)))] := ⟨_, rfl⟩
 refine tail_skip (o := _) rfl ⟨rfl, rfl⟩ (run_seg hW17 (fr_ev k16_18) (fr_ev k16_73) br16_8 rfl rfl rfl rfl) ?_
 obtain ⟨fB17, nb17, ot17, z17⟩ := seg_facts hW17 fB16 br16_8 (by omega)
 clear hW17
 have b17_0 := ot17 _ _ (by omega) b16_0
 have b17_1 := ot17 _ _ (by omega) b16_1
 have b17_2 := ot17 _ _ (by omega) b16_2
 have b17_3 := ot17 _ _ (by omega) b16_3
 have b17_4 := ot17 _ _ (by omega) b16_4
 have b17_5 := ot17 _ _ (by omega) b16_5
 have b17_6 := ot17 _ _ (by omega) b16_6
 have b17_7 := ot17 _ _ (by omega) b16_7
 refine tail_value (o := _) rfl rfl rfl (v := .int .i64 p0) (by simp [go_sem, frv 193 k16_74]) ?_
 generalize hg18 : upd g16 19 (.int .i64 p0) = g18
 have k18_1 := ku hg18 1 k16_1
 have k18_3 := ku hg18 3 k16_3
 have k18_6 := ku hg18 6 k16_6
 have k18_7 := ku hg18 7 k16_7
 have k18_8 := ku hg18 8 k16_8
 have k18_9 := ku hg18 9 k16_9
 have k18_10 := ku hg18 10 k16_10
 have k18_11 := ku hg18 11 k16_11
 have k18_12 := ku hg18 12 k16_12
 have k18_46 := ku hg18 46 k16_46
 have k18_15 := ku hg18 15 k16_15
 have k18_16 := ku hg18 16 k16_16
 have k18_63 := ku hg18 63 k16_63
 have k18_17 := ku hg18 17 k16_17
 have k18_66 := ku hg18 66 k16_66
 have k18_67 := ku hg18 67 k16_67
 have k18_73 := ku hg18 73 k16_73
 have k18_74 := ku hg18 74 k16_74
 have k18_75 := ku hg18 75 k16_75
 have k18_18 := ku hg18 18 k16_18
 have k18_19 := kt hg18 19 (upd_same _ _ _)
 refine tail_value (o := _) rfl rfl rfl (v := .int .i64 0) (by simp [go_sem, frv 193 k18_75]) ?_
 generalize hg19 : upd g18 20 (.int .i64 0) = g19
 have k19_1 := ku hg19 1 k18_1
 have k19_3 := ku hg19 3 k18_3
 have k19_6 := ku hg19 6 k18_6
 have k19_7 := ku hg19 7 k18_7
 have k19_8 := ku hg19 8 k18_8
 have k19_9 := ku hg19 9 k18_9
 have k19_10 := ku hg19 10 k18_10
 have k19_11 := ku hg19 11 k18_11
 have k19_12 := ku hg19 12 k18_12
 have k19_46 := ku hg19 46 k18_46
 have k19_15 := ku hg19 15 k18_15
 have k19_16 := ku hg19 16 k18_16
 have k19_63 := ku hg19 63 k18_63
 have k19_17 := ku hg19 17 k18_17
 have k19_66 := ku hg19 66 k18_66
 have k19_67 := ku hg19 67 k18_67
 have k19_73 := ku hg19 73 k18_73
 have k19_74 := ku hg19 74 k18_74
 have k19_75 := ku hg19 75 k18_75
 have k19_18 := ku hg19 18 k18_18
 have k19_19 := ku hg19 19 k18_19
 have k19_20 := kt hg19 20 (upd_same _ _ _)
 refine wpOps_end ?_
 refine hK14 _ _ ?_
 refine wp_seq_k fun K15 hK15 => ?_
 as_aux_lemma =>
 refine region_dk 8 [(77, 0), (78, 1), (79, 2), (80, 3), (76, 4), (81, 5), (82, 6), (21, 7), (22, 9)] [[], [0], [], [0, 1, 2], [0, 1, 2, 3], [0, 1, 2, 3, 4], [0, 1, 2, 3, 4], [], [0, 1, 2, 3, 4, 5, 7], [0, 1, 2, 3, 4, 5, 6, 7, 8]] (rel [is (.agg #[.int .i64 br0, .int .i64 q.bo, .int .i64 q.wa, .int .i64 q.tl, .int .i64 q.se, .int .i64 q.ru, .int .i64 q.wo, .int .i64 q.pl, .int .i64 q.fr, .int .i64 q.ma, .slice (some ⟨g4', 0, none⟩) (1) (c5')]),
   ab fun v W => QuV (quA q br0) v W,
   is (.int .i64 (1 + (v4 * 7))),
   is (.tuple #[.agg #[.int .i64 rr0, .int .i64 dd0], .int .i64 0]),
   is (.tuple #[.agg #[.int .i64 rr0, .int .i64 dd0], .int .i64 0]),
   is (.agg #[.int .i64 rr0, .int .i64 dd0]),
   is (.int .i64 0),
   bx 7 #[.int .i64 0, .int .i64 0] 49])
  ⟨is_k, ab_k fun v W W' hb h => h.below hb, is_k, is_k, is_k, is_k, is_k, bx_k, trivial⟩
  ⟨fun f s W hW j m n p i => opl rfl rfl rfl (i.v 17 k19_17) (blk_below b17_7 hW) Try.underlying32 rfl (by kernel_rfl) rfl,
  fun f s W hW j m n p i => opDo_call (args := #[.agg #[.int .i64 br0, .int .i64 q.bo, .int .i64 q.wa, .int .i64 q.tl, .int .i64 q.se, .int .i64 q.ru, .int .i64 q.wo, .int .i64 q.pl, .int .i64 q.fr, .int .i64 q.ma, .slice (some ⟨g4', 0, none⟩) (1) (c5')]]) rfl rfl (by simp [go_sem, i.e 77 (j 0 rfl)]) ((pubSteps_ok (quA q br0) g4' 0 c5' W (step_of (blk_below b17_2 hW)) : Calls _ _ #[.agg #[.int .i64 br0, .int .i64 q.bo, .int .i64 q.wa, .int .i64 q.tl, .int .i64 q.se, .int .i64 q.ru, .int .i64 q.wo, .int .i64 q.pl, .int .i64 q.fr, .int .i64 q.ma, .slice (some ⟨g4', 0, none⟩) (1) (c5')]] W _)) ((fun e W' h => by obtain ⟨v, e1, h1, h2⟩ := h; exact ⟨_, e1, h2, h1⟩)),
  fun f s W hW j m n p i => opv rfl rfl (by simp [go_sem, i.e 8 k19_8]) rfl,
  fun f s W hW j m n p i => by obtain ⟨g20', o21', c22', d1, q23'⟩ := (j 1 rfl); exact opc rfl rfl (by simp [go_sem, i.e 78 d1, i.e 79 (j 2 rfl)]) (Each_ok (quA q br0) g20' o21' c22' (1 + (v4 * 7)) p0 gg0 rr0 dd0 pn0 nn W q23' hq0 gn hp0 gp0 hpn0 hnn hgg0 ggg0 hrr0 hdd0 grr0 gdd0),
  fun f s W hW j m n p i => opv rfl rfl (by simp [go_sem, i.e 80 (j 3 rfl)]) rfl,
  fun f s W hW j m n p i => opv rfl rfl (by simp [go_sem, i.e 76 (j 4 rfl)]) rfl,
  fun f s W hW j m n p i => opv rfl rfl (by simp [go_sem, i.e 76 (j 4 rfl)]) rfl,
  fun f s W hW j m n p i => opb rfl rfl (by simp [go_sem]), trivial⟩ ?_
 intro f20 s20 W20 hB20 g20 hg20
 have fB20 := hB20.f fB17
 have z20 := hB20.below.size
 have b20_0 := hB20.b b17_0
 have b20_1 := hB20.b b17_1
 have b20_2 := hB20.b b17_2
 have b20_3 := hB20.b b17_3
 have b20_4 := hB20.b b17_4
 have b20_5 := hB20.b b17_5
 have b20_6 := hB20.b b17_6
 have b20_7 := hB20.b b17_7
 have b20_8 := hB20.b nb17
 obtain ⟨r20_7, br20_7⟩ := hB20.is 7
 have lr20_7 := hB20.lr 7 br20_7
 have k20_1 := kt hg20 1 k19_1
 have k20_3 := kt hg20 3 k19_3
 have k20_6 := kt hg20 6 k19_6
 have k20_7 := kt hg20 7 k19_7
 have k20_8 := kt hg20 8 k19_8
 have k20_9 := kt hg20 9 k19_9
 have k20_10 := kt hg20 10 k19_10
 have k20_11 := kt hg20 11 k19_11
 have k20_12 := kt hg20 12 k19_12
 have k20_46 := kt hg20 46 k19_46
 have k20_15 := kt hg20 15 k19_15
 have k20_16 := kt hg20 16 k19_16
 have k20_63 := kt hg20 63 k19_63
 have k20_17 := kt hg20 17 k19_17
 have k20_66 := kt hg20 66 k19_66
 have k20_67 := kt hg20 67 k19_67
 have k20_73 := kt hg20 73 k19_73
 have k20_74 := kt hg20 74 k19_74
 have k20_75 := kt hg20 75 k19_75
 have k20_18 := kt hg20 18 k19_18
 have k20_19 := kt hg20 19 k19_19
 have k20_20 := kt hg20 20 k19_20
 have k20_81 := kt hg20 81 (hB20.is 5)
 have k20_82 := kt hg20 82 (hB20.is 6)
 have k20_21 := kt hg20 21 r20_7
 obtain ⟨W21, hW21⟩ : ∃ W', W' = W20.setRow (s20 7) #[.int .i64 rr0, .int .i64 dd0] := ⟨_, rfl⟩
 refine tail_skip (o := _) rfl ⟨rfl, rfl⟩ (run_seg hW21 (fr_ev k20_21) (fr_ev k20_81) br20_7 rfl rfl rfl rfl) ?_
 obtain ⟨fB21, nb21, ot21, z21⟩ := seg_facts hW21 fB20 br20_7 (by omega)
 clear hW21
 have b21_0 := ot21 _ _ (by omega) b20_0
 have b21_1 := ot21 _ _ (by omega) b20_1
 have b21_2 := ot21 _ _ (by omega) b20_2
 have b21_3 := ot21 _ _ (by omega) b20_3
 have b21_4 := ot21 _ _ (by omega) b20_4
 have b21_5 := ot21 _ _ (by omega) b20_5
 have b21_6 := ot21 _ _ (by omega) b20_6
 have b21_7 := ot21 _ _ (by omega) b20_7
 have b21_8 := ot21 _ _ (by omega) b20_8
 refine tail_value (o := _) rfl rfl rfl (v := .int .i64 0) (by simp [go_sem, frv 193 k20_82]) ?_
 generalize hg22 : upd g20 22 (.int .i64 0) = g22
 have k22_1 := ku hg22 1 k20_1
 have k22_3 := ku hg22 3 k20_3
 have k22_6 := ku hg22 6 k20_6
 have k22_7 := ku hg22 7 k20_7
 have k22_8 := ku hg22 8 k20_8
 have k22_9 := ku hg22 9 k20_9
 have k22_10 := ku hg22 10 k20_10
 have k22_11 := ku hg22 11 k20_11
 have k22_12 := ku hg22 12 k20_12
 have k22_46 := ku hg22 46 k20_46
 have k22_15 := ku hg22 15 k20_15
 have k22_16 := ku hg22 16 k20_16
 have k22_63 := ku hg22 63 k20_63
 have k22_17 := ku hg22 17 k20_17
 have k22_66 := ku hg22 66 k20_66
 have k22_67 := ku hg22 67 k20_67
 have k22_73 := ku hg22 73 k20_73
 have k22_74 := ku hg22 74 k20_74
 have k22_75 := ku hg22 75 k20_75
 have k22_18 := ku hg22 18 k20_18
 have k22_19 := ku hg22 19 k20_19
 have k22_20 := ku hg22 20 k20_20
 have k22_81 := ku hg22 81 k20_81
 have k22_82 := ku hg22 82 k20_82
 have k22_21 := ku hg22 21 k20_21
 have k22_22 := kt hg22 22 (upd_same _ _ _)
 refine wpOps_end ?_
 refine hK15 _ _ ?_
 refine wp_seq_k fun K16 hK16 => ?_
 refine wp_seq_k fun K17 hK17 => ?_
 as_aux_lemma =>
 refine region_dk 51 [(83, 0), (84, 1), (85, 2), (86, 3), (87, 4), (88, 5), (89, 6), (90, 7), (91, 8), (92, 9), (93, 10), (94, 11), (95, 12), (96, 13), (97, 14), (98, 15), (99, 16), (100, 17), (101, 18), (102, 19), (103, 20), (104, 21), (105, 22), (106, 23), (107, 24), (108, 25), (109, 26), (110, 27), (111, 28), (112, 29), (113, 30), (114, 31), (115, 32), (116, 33), (117, 34), (118, 35), (119, 36), (120, 37), (121, 38), (122, 39), (123, 40), (124, 41), (125, 42), (126, 43), (127, 44), (128, 45), (129, 46), (130, 47), (131, 48), (132, 49), (133, 50)] [[], [0], [0, 1], [0, 1, 2], [0, 1, 2, 3], [0, 1, 2, 3, 4], [0, 1, 2, 3, 4, 5], [0, 1, 2, 3, 4, 5, 6], [0, 1, 2, 3, 4, 5, 6, 7], [0, 1, 2, 3, 4, 5, 6, 7, 8], [0, 1, 2, 3, 4, 5, 6, 7, 8, 9], [0, 1, 2, 3, 4, 5, 6, 7, 8, 9, 10], [0, 1, 2, 3, 4, 5, 6, 7, 8, 9, 10, 11], [0, 1, 2, 3, 4, 5, 6, 7, 8, 9, 10, 11, 12], [0, 1, 2, 3, 4, 5, 6, 7, 8, 9, 10, 11, 12, 13], [0, 1, 2, 3, 4, 5, 6, 7, 8, 9, 10, 11, 12, 13, 14], [0, 1, 2, 3, 4, 5, 6, 7, 8, 9, 10, 11, 12, 13, 14, 15], [0, 1, 2, 3, 4, 5, 6, 7, 8, 9, 10, 11, 12, 13, 14, 15, 16], [0, 1, 2, 3, 4, 5, 6, 7, 8, 9, 10, 11, 12, 13, 14, 15, 16, 17], [0, 1, 2, 3, 4, 5, 6, 7, 8, 9, 10, 11, 12, 13, 14, 15, 16, 17, 18], [0, 1, 2, 3, 4, 5, 6, 7, 8, 9, 10, 11, 12, 13, 14, 15, 16, 17, 18, 19], [0, 1, 2, 3, 4, 5, 6, 7, 8, 9, 10, 11, 12, 13, 14, 15, 16, 17, 18, 19, 20], [0, 1, 2, 3, 4, 5, 6, 7, 8, 9, 10, 11, 12, 13, 14, 15, 16, 17, 18, 19, 20, 21], [0, 1, 2, 3, 4, 5, 6, 7, 8, 9, 10, 11, 12, 13, 14, 15, 16, 17, 18, 19, 20, 21, 22], [0, 1, 2, 3, 4, 5, 6, 7, 8, 9, 10, 11, 12, 13, 14, 15, 16, 17, 18, 19, 20, 21, 22, 23], [0, 1, 2, 3, 4, 5, 6, 7, 8, 9, 10, 11, 12, 13, 14, 15, 16, 17, 18, 19, 20, 21, 22, 23, 24], [0, 1, 2, 3, 4, 5, 6, 7, 8, 9, 10, 11, 12, 13, 14, 15, 16, 17, 18, 19, 20, 21, 22, 23], [0, 1, 2, 3, 4, 5, 6, 7, 8, 9, 10, 11, 12, 13, 14, 15, 16, 17, 18, 19, 20, 21, 22, 23, 24, 25, 26], [0, 1, 2, 3, 4, 5, 6, 7, 8, 9, 10, 11, 12, 13, 14, 15, 16, 17, 18, 19, 20, 21, 22, 23, 24, 25, 26, 27], [0, 1, 2, 3, 4, 5, 6, 7, 8, 9, 10, 11, 12, 13, 14, 15, 16, 17, 18, 19, 20, 21, 22, 23, 24, 25, 26, 27, 28], [0, 1, 2, 3, 4, 5, 6, 7, 8, 9, 10, 11, 12, 13, 14, 15, 16, 17, 18, 19, 20, 21, 22, 23, 24, 25, 26, 27, 28, 29], [0, 1, 2, 3, 4, 5, 6, 7, 8, 9, 10, 11, 12, 13, 14, 15, 16, 17, 18, 19, 20, 21, 22, 23, 24, 25, 26, 27, 28, 29, 30], [0, 1, 2, 3, 4, 5, 6, 7, 8, 9, 10, 11, 12, 13, 14, 15, 16, 17, 18, 19, 20, 21, 22, 23, 24, 25, 26, 27, 28, 29, 30, 31], [0, 1, 2, 3, 4, 5, 6, 7, 8, 9, 10, 11, 12, 13, 14, 15, 16, 17, 18, 19, 20, 21, 22, 23, 24, 25, 26, 27, 28, 29, 30, 31, 32], [0, 1, 2, 3, 4, 5, 6, 7, 8, 9, 10, 11, 12, 13, 14, 15, 16, 17, 18, 19, 20, 21, 22, 23, 24, 25, 26, 27, 28, 29, 30, 31, 32, 33], [0, 1, 2, 3, 4, 5, 6, 7, 8, 9, 10, 11, 12, 13, 14, 15, 16, 17, 18, 19, 20, 21, 22, 23, 24, 25, 26, 27, 28, 29, 30, 31, 32, 33, 34], [0, 1, 2, 3, 4, 5, 6, 7, 8, 9, 10, 11, 12, 13, 14, 15, 16, 17, 18, 19, 20, 21, 22, 23, 24, 25, 26, 27, 28, 29, 30, 31, 32, 33, 34, 35], [0, 1, 2, 3, 4, 5, 6, 7, 8, 9, 10, 11, 12, 13, 14, 15, 16, 17, 18, 19, 20, 21, 22, 23, 24, 25, 26, 27, 28, 29, 30, 31, 32, 33, 34], [0, 1, 2, 3, 4, 5, 6, 7, 8, 9, 10, 11, 12, 13, 14, 15, 16, 17, 18, 19, 20, 21, 22, 23, 24, 25, 26, 27, 28, 29, 30, 31, 32, 33, 34, 35, 36, 37], [0, 1, 2, 3, 4, 5, 6, 7, 8, 9, 10, 11, 12, 13, 14, 15, 16, 17, 18, 19, 20, 21, 22, 23, 24, 25, 26, 27, 28, 29, 30, 31, 32, 33, 34, 35, 36, 37, 38], [0, 1, 2, 3, 4, 5, 6, 7, 8, 9, 10, 11, 12, 13, 14, 15, 16, 17, 18, 19, 20, 21, 22, 23, 24, 25, 26, 27, 28, 29, 30, 31, 32, 33, 34, 35, 36, 37, 38, 39], [0, 1, 2, 3, 4, 5, 6, 7, 8, 9, 10, 11, 12, 13, 14, 15, 16, 17, 18, 19, 20, 21, 22, 23, 24, 25, 26, 27, 28, 29, 30, 31, 32, 33, 34, 35, 36, 37, 38, 39, 40], [0, 1, 2, 3, 4, 5, 6, 7, 8, 9, 10, 11, 12, 13, 14, 15, 16, 17, 18, 19, 20, 21, 22, 23, 24, 25, 26, 27, 28, 29, 30, 31, 32, 33, 34, 35, 36, 37, 38, 39, 40, 41], [0, 1, 2, 3, 4, 5, 6, 7, 8, 9, 10, 11, 12, 13, 14, 15, 16, 17, 18, 19, 20, 21, 22, 23, 24, 25, 26, 27, 28, 29, 30, 31, 32, 33, 34, 35, 36, 37, 38, 39, 40], [0, 1, 2, 3, 4, 5, 6, 7, 8, 9, 10, 11, 12, 13, 14, 15, 16, 17, 18, 19, 20, 21, 22, 23, 24, 25, 26, 27, 28, 29, 30, 31, 32, 33, 34, 35, 36, 37, 38, 39, 40, 41, 42, 43], [0, 1, 2, 3, 4, 5, 6, 7, 8, 9, 10, 11, 12, 13, 14, 15, 16, 17, 18, 19, 20, 21, 22, 23, 24, 25, 26, 27, 28, 29, 30, 31, 32, 33, 34, 35, 36, 37, 38, 39, 40], [0, 1, 2, 3, 4, 5, 6, 7, 8, 9, 10, 11, 12, 13, 14, 15, 16, 17, 18, 19, 20, 21, 22, 23, 24, 25, 26, 27, 28, 29, 30, 31, 32, 33, 34, 35, 36, 37, 38, 39, 40], [0, 1, 2, 3, 4, 5, 6, 7, 8, 9, 10, 11, 12, 13, 14, 15, 16, 17, 18, 19, 20, 21, 22, 23, 24, 25, 26, 27, 28, 29, 30, 31, 32, 33, 34, 35, 36, 37, 38, 39, 40, 46], [0, 1, 2, 3, 4, 5, 6, 7, 8, 9, 10, 11, 12, 13, 14, 15, 16, 17, 18, 19, 20, 21, 22, 23, 24, 25, 26, 27, 28, 29, 30, 31, 32, 33, 34, 35, 36, 37, 38, 39, 40, 45, 46, 47], [0, 1, 2, 3, 4, 5, 6, 7, 8, 9, 10, 11, 12, 13, 14, 15, 16, 17, 18, 19, 20, 21, 22, 23, 24, 25, 26, 27, 28, 29, 30, 31, 32, 33, 34, 35, 36, 37, 38, 39, 40, 41, 42, 43, 44, 45, 46, 47, 48], [0, 1, 2, 3, 4, 5, 6, 7, 8, 9, 10, 11, 12, 13, 14, 15, 16, 17, 18, 19, 20, 21, 22, 23, 24, 25, 26, 27, 28, 29, 30, 31, 32, 33, 34, 35, 36, 37, 38, 39, 40, 41, 42, 43, 44, 45, 46, 47, 48, 49]] (rel [is (.int .i64 0),
   is (.bool false),
   is (.bool false),
   is (.int .i64 0),
   is (.bool false),
   is (.bool false),
   is (.bool false),
   is (.int .i64 0),
   is (.bool false),
   is (.bool false),
   is (.bool false),
   is (.int .i64 A0),
   is (.bool false),
   is (.bool false),
   is (.bool false),
   is (.int .i64 p0),
   is (.bool false),
   is (.bool false),
   is (.bool false),
   is (.pointer (some ⟨(s20 7), 1, none⟩)),
   is (.int .i64 dd0),
   is (.bool false),
   is (.bool false),
   is (.bool false),
   is (.pointer (some ⟨(s20 7), 1, none⟩)),
   is (.int .i64 dd0),
   is (.int .i64 (1 + (v4 * 7))),
   is (.bool false),
   is (.bool false),
   is (.bool false),
   is (.pointer (some ⟨(s20 7), 0, none⟩)),
   is (.int .i64 rr0),
   is (.bool false),
   is (.bool false),
   is (.bool false),
   is (.pointer (some ⟨(s20 7), 0, none⟩)),
   is (.int .i64 rr0),
   is (.int .i64 p0),
   is (.bool false),
   is (.bool false),
   is (.bool false),
   is (.pointer (some ⟨(s20 7), 0, none⟩)),
   is (.int .i64 rr0),
   is (.int .i64 (1 + (v4 * 7))),
   is (.int .i64 (rr0 * (1 + (v4 * 7)))),
   is (.int .i64 p0),
   is (.pointer (some ⟨(s20 7), 1, none⟩)),
   is (.int .i64 dd0),
   is (.int .i64 (p0 * dd0)),
   is (.bool false),
   is (.bool false)])
  ⟨is_k, is_k, is_k, is_k, is_k, is_k, is_k, is_k, is_k, is_k, is_k, is_k, is_k, is_k, is_k, is_k, is_k, is_k, is_k, is_k, is_k, is_k, is_k, is_k, is_k, is_k, is_k, is_k, is_k, is_k, is_k, is_k, is_k, is_k, is_k, is_k, is_k, is_k, is_k, is_k, is_k, is_k, is_k, is_k, is_k, is_k, is_k, is_k, is_k, is_k, is_k, trivial⟩
  ⟨fun f s W hW j m n p i => opv rfl rfl (by simp [go_sem, i.e 16 k22_16]) rfl,
  fun f s W hW j m n p i => opv rfl rfl (by simp [go_sem, i.e 83 (j 0 rfl)]) rfl,
  fun f s W hW j m n p i => opv rfl rfl (by simp [go_sem, i.e 84 (j 1 rfl)]) rfl,
  fun f s W hW j m n p i => osure rfl rfl (i.says (d := 85) rfl rfl (j 2 rfl)) (gv (by simp [go_sem, i.e 20 k22_20]) rfl),
  fun f s W hW j m n p i => osure rfl rfl (i.says (d := 85) rfl rfl (j 2 rfl)) (gv (by simp [go_sem, i.e 86 (j 3 rfl)]) rfl),
  fun f s W hW j m n p i => opk (c := false) rfl rfl (fun _ => by simp [go_sem, i.e 85 (j 2 rfl), i.e 87 (j 4 rfl)]) (fun h => absurd h (by decide)),
  fun f s W hW j m n p i => opv rfl rfl (by simp [go_sem, i.e 88 (j 5 rfl)]) rfl,
  fun f s W hW j m n p i => osure rfl rfl (i.says (d := 89) rfl rfl (j 6 rfl)) (gv (by simp [go_sem, i.e 22 k22_22]) rfl),
  fun f s W hW j m n p i => osure rfl rfl (i.says (d := 89) rfl rfl (j 6 rfl)) (gv (by simp [go_sem, i.e 90 (j 7 rfl)]) rfl),
  fun f s W hW j m n p i => opk (c := false) rfl rfl (fun _ => by simp [go_sem, i.e 89 (j 6 rfl), i.e 91 (j 8 rfl)]) (fun h => absurd h (by decide)),
  fun f s W hW j m n p i => opv rfl rfl (by simp [go_sem, i.e 92 (j 9 rfl)]) rfl,
  fun f s W hW j m n p i => osure rfl rfl (i.says (d := 93) rfl rfl (j 10 rfl)) (gv (by simp [go_sem, i.e 15 k22_15]) rfl),
  fun f s W hW j m n p i => osure rfl rfl (i.says (d := 93) rfl rfl (j 10 rfl)) (gv (by simp [go_sem, i.e 94 (j 11 rfl), hd0_0]) rfl),
  fun f s W hW j m n p i => opk (c := false) rfl rfl (fun _ => by simp [go_sem, i.e 93 (j 10 rfl), i.e 95 (j 12 rfl)]) (fun h => absurd h (by decide)),
  fun f s W hW j m n p i => opv rfl rfl (by simp [go_sem, i.e 96 (j 13 rfl)]) rfl,
  fun f s W hW j m n p i => osure rfl rfl (i.says (d := 97) rfl rfl (j 14 rfl)) (gv (by simp [go_sem, i.e 19 k22_19]) rfl),
  fun f s W hW j m n p i => osure rfl rfl (i.says (d := 97) rfl rfl (j 14 rfl)) (gv (by simp [go_sem, i.e 98 (j 15 rfl), hd0_1]) rfl),
  fun f s W hW j m n p i => opk (c := false) rfl rfl (fun _ => by simp [go_sem, i.e 97 (j 14 rfl), i.e 99 (j 16 rfl)]) (fun h => absurd h (by decide)),
  fun f s W hW j m n p i => opv rfl rfl (by simp [go_sem, i.e 100 (j 17 rfl)]) rfl,
  fun f s W hW j m n p i => osure rfl rfl (i.says (d := 101) rfl rfl (j 18 rfl)) (gv (by simp [go_sem, i.e 21 k22_21]) rfl),
  fun f s W hW j m n p i => osure rfl rfl (i.says (d := 101) rfl rfl (j 18 rfl)) (gv (by simp [go_sem, i.e 102 (j 19 rfl), cb nb21 hW 1]) rfl),
  fun f s W hW j m n p i => osure rfl rfl (i.says (d := 101) rfl rfl (j 18 rfl)) (gv (by simp [go_sem, i.e 103 (j 20 rfl), hd0_2]) rfl),
  fun f s W hW j m n p i => opk (c := false) rfl rfl (fun _ => by simp [go_sem, i.e 101 (j 18 rfl), i.e 104 (j 21 rfl)]) (fun h => absurd h (by decide)),
  fun f s W hW j m n p i => opv rfl rfl (by simp [go_sem, i.e 105 (j 22 rfl)]) rfl,
  fun f s W hW j m n p i => osure rfl rfl (i.says (d := 106) rfl rfl (j 23 rfl)) (gv (by simp [go_sem, i.e 21 k22_21]) rfl),
  fun f s W hW j m n p i => osure rfl rfl (i.says (d := 106) rfl rfl (j 23 rfl)) (gv (by simp [go_sem, i.e 107 (j 24 rfl), cb nb21 hW 1]) rfl),
  fun f s W hW j m n p i => osure rfl rfl (i.says (d := 106) rfl rfl (j 23 rfl)) (gv (by simp [go_sem, i.e 8 k22_8]) rfl),
  fun f s W hW j m n p i => osure rfl rfl (i.says (d := 106) rfl rfl (j 23 rfl)) (gv (by simp [go_sem, i.e 108 (j 25 rfl), i.e 109 (j 26 rfl), hd0_3]) rfl),
  fun f s W hW j m n p i => opk (c := false) rfl rfl (fun _ => by simp [go_sem, i.e 106 (j 23 rfl), i.e 110 (j 27 rfl)]) (fun h => absurd h (by decide)),
  fun f s W hW j m n p i => opv rfl rfl (by simp [go_sem, i.e 111 (j 28 rfl)]) rfl,
  fun f s W hW j m n p i => osure rfl rfl (i.says (d := 112) rfl rfl (j 29 rfl)) (gv (by simp [go_sem, i.e 21 k22_21]) rfl),
  fun f s W hW j m n p i => osure rfl rfl (i.says (d := 112) rfl rfl (j 29 rfl)) (gv (by simp [go_sem, i.e 113 (j 30 rfl), cb nb21 hW 0]) rfl),
  fun f s W hW j m n p i => osure rfl rfl (i.says (d := 112) rfl rfl (j 29 rfl)) (gv (by simp [go_sem, i.e 114 (j 31 rfl), hd0_4]) rfl),
  fun f s W hW j m n p i => opk (c := false) rfl rfl (fun _ => by simp [go_sem, i.e 112 (j 29 rfl), i.e 115 (j 32 rfl)]) (fun h => absurd h (by decide)),
  fun f s W hW j m n p i => opv rfl rfl (by simp [go_sem, i.e 116 (j 33 rfl)]) rfl,
  fun f s W hW j m n p i => osure rfl rfl (i.says (d := 117) rfl rfl (j 34 rfl)) (gv (by simp [go_sem, i.e 21 k22_21]) rfl),
  fun f s W hW j m n p i => osure rfl rfl (i.says (d := 117) rfl rfl (j 34 rfl)) (gv (by simp [go_sem, i.e 118 (j 35 rfl), cb nb21 hW 0]) rfl),
  fun f s W hW j m n p i => osure rfl rfl (i.says (d := 117) rfl rfl (j 34 rfl)) (gv (by simp [go_sem, i.e 19 k22_19]) rfl),
  fun f s W hW j m n p i => osure rfl rfl (i.says (d := 117) rfl rfl (j 34 rfl)) (gv (by simp [go_sem, i.e 119 (j 36 rfl), i.e 120 (j 37 rfl), hd0_5]) rfl),
  fun f s W hW j m n p i => opk (c := false) rfl rfl (fun _ => by simp [go_sem, i.e 117 (j 34 rfl), i.e 121 (j 38 rfl)]) (fun h => absurd h (by decide)),
  fun f s W hW j m n p i => opv rfl rfl (by simp [go_sem, i.e 122 (j 39 rfl)]) rfl,
  fun f s W hW j m n p i => osure rfl rfl (i.says (d := 123) rfl rfl (j 40 rfl)) (gv (by simp [go_sem, i.e 21 k22_21]) rfl),
  fun f s W hW j m n p i => osure rfl rfl (i.says (d := 123) rfl rfl (j 40 rfl)) (gv (by simp [go_sem, i.e 124 (j 41 rfl), cb nb21 hW 0]) rfl),
  fun f s W hW j m n p i => osure rfl rfl (i.says (d := 123) rfl rfl (j 40 rfl)) (gv (by simp [go_sem, i.e 8 k22_8]) rfl),
  fun f s W hW j m n p i => osure rfl rfl (i.says (d := 123) rfl rfl (j 40 rfl)) (gv (by simp [go_sem, i.e 125 (j 42 rfl), i.e 126 (j 43 rfl), IntWalk.i64_in (rr0 * (1 + (v4 * 7))) (by rw [hrn0]; exact gpd0)]) rfl),
  fun f s W hW j m n p i => osure rfl rfl (i.says (d := 123) rfl rfl (j 40 rfl)) (gv (by simp [go_sem, i.e 19 k22_19]) rfl),
  fun f s W hW j m n p i => osure rfl rfl (i.says (d := 123) rfl rfl (j 40 rfl)) (gv (by simp [go_sem, i.e 21 k22_21]) rfl),
  fun f s W hW j m n p i => osure rfl rfl (i.says (d := 123) rfl rfl (j 40 rfl)) (gv (by simp [go_sem, i.e 129 (j 46 rfl), cb nb21 hW 1]) rfl),
  fun f s W hW j m n p i => osure rfl rfl (i.says (d := 123) rfl rfl (j 40 rfl)) (gv (by simp [go_sem, i.e 128 (j 45 rfl), i.e 130 (j 47 rfl), IntWalk.i64_in (p0 * dd0) (by exact gpd0)]) rfl),
  fun f s W hW j m n p i => osure rfl rfl (i.says (d := 123) rfl rfl (j 40 rfl)) (gv (by simp [go_sem, i.e 127 (j 44 rfl), i.e 131 (j 48 rfl), hd0_9]) rfl),
  fun f s W hW j m n p i => opk (c := false) rfl rfl (fun _ => by simp [go_sem, i.e 123 (j 40 rfl), i.e 132 (j 49 rfl)]) (fun h => absurd h (by decide)), trivial⟩ ?_
 intro f23 s23 W23 hB23 g23 hg23
 have fB23 := hB23.f fB21
 have z23 := hB23.below.size
 have b23_0 := hB23.b b21_0
 have b23_1 := hB23.b b21_1
 have b23_2 := hB23.b b21_2
 have b23_3 := hB23.b b21_3
 have b23_4 := hB23.b b21_4
 have b23_5 := hB23.b b21_5
 have b23_6 := hB23.b b21_6
 have b23_7 := hB23.b b21_7
 have b23_8 := hB23.b b21_8
 have b23_9 := hB23.b nb21
 refine hK17 _ _ ?_
 have k23_1 := kt hg23 1 k22_1
 have k23_3 := kt hg23 3 k22_3
 have k23_6 := kt hg23 6 k22_6
 have k23_7 := kt hg23 7 k22_7
 have k23_8 := kt hg23 8 k22_8
 have k23_9 := kt hg23 9 k22_9
 have k23_10 := kt hg23 10 k22_10
 have k23_11 := kt hg23 11 k22_11
 have k23_12 := kt hg23 12 k22_12
 have k23_46 := kt hg23 46 k22_46
 have k23_15 := kt hg23 15 k22_15
 have k23_16 := kt hg23 16 k22_16
 have k23_63 := kt hg23 63 k22_63
 have k23_17 := kt hg23 17 k22_17
 have k23_66 := kt hg23 66 k22_66
 have k23_67 := kt hg23 67 k22_67
 have k23_73 := kt hg23 73 k22_73
 have k23_74 := kt hg23 74 k22_74
 have k23_75 := kt hg23 75 k22_75
 have k23_18 := kt hg23 18 k22_18
 have k23_19 := kt hg23 19 k22_19
 have k23_20 := kt hg23 20 k22_20
 have k23_81 := kt hg23 81 k22_81
 have k23_82 := kt hg23 82 k22_82
 have k23_21 := kt hg23 21 k22_21
 have k23_22 := kt hg23 22 k22_22
 have k23_133 := kt hg23 133 (hB23.is 50)
 refine wp_cond_false ((fr_eval rfl).trans k23_133) ?_
 refine wp_skip ?_
 refine hK16 _ _ ?_
 obtain ⟨l24, hl24⟩ : ∃ l : List Tg, [⟨(s4 2), 34, #[.int .i64 0, .int .i64 0], #[.int .i64 p0, .int .i64 0]⟩, ⟨(s4 3), 34, #[.int .i64 0, .int .i64 0], #[.int .i64 A0, .int .i64 0]⟩, ⟨(s7 1), 35, #[.int .i64 0, .int .i64 0, .int .i64 0, .int .i64 0, .int .i64 0, .int .i64 0, .int .i64 0, .int .i64 0, .int .i64 0, .int .i64 0, .slice (none) (0) (0), .int .i64 0, .int .i64 0, .int .i64 0, .int .i64 0, .int .i64 0, .int .i64 0, .int .i64 0, .int .i64 0, .int .i64 0, .int .i64 0, .slice (none) (0) (0)], #[.int .i64 br0, .int .i64 q.bo, .int .i64 q.wa, .int .i64 q.tl, .int .i64 q.se, .int .i64 q.ru, .int .i64 q.wo, .int .i64 q.pl, .int .i64 q.fr, .int .i64 q.ma, .slice (some ⟨g4', 0, none⟩) (1) (c5'), .int .i64 0, .int .i64 0, .int .i64 0, .int .i64 0, .int .i64 0, .int .i64 0, .int .i64 0, .int .i64 0, .int .i64 0, .int .i64 0, .slice (none) (0) (0)]⟩] = l := ⟨_, rfl⟩
 have hm24_0 := hl24 ▸ (.head _ : (⟨(s4 2), 34, #[.int .i64 0, .int .i64 0], #[.int .i64 p0, .int .i64 0]⟩ : Tg) ∈ ([⟨(s4 2), 34, #[.int .i64 0, .int .i64 0], #[.int .i64 p0, .int .i64 0]⟩, ⟨(s4 3), 34, #[.int .i64 0, .int .i64 0], #[.int .i64 A0, .int .i64 0]⟩, ⟨(s7 1), 35, #[.int .i64 0, .int .i64 0, .int .i64 0, .int .i64 0, .int .i64 0, .int .i64 0, .int .i64 0, .int .i64 0, .int .i64 0, .int .i64 0, .slice (none) (0) (0), .int .i64 0, .int .i64 0, .int .i64 0, .int .i64 0, .int .i64 0, .int .i64 0, .int .i64 0, .int .i64 0, .int .i64 0, .int .i64 0, .slice (none) (0) (0)], #[.int .i64 br0, .int .i64 q.bo, .int .i64 q.wa, .int .i64 q.tl, .int .i64 q.se, .int .i64 q.ru, .int .i64 q.wo, .int .i64 q.pl, .int .i64 q.fr, .int .i64 q.ma, .slice (some ⟨g4', 0, none⟩) (1) (c5'), .int .i64 0, .int .i64 0, .int .i64 0, .int .i64 0, .int .i64 0, .int .i64 0, .int .i64 0, .int .i64 0, .int .i64 0, .int .i64 0, .slice (none) (0) (0)]⟩] : List Tg))
 have hm24_1 := hl24 ▸ (.tail _ (.head _) : (⟨(s4 3), 34, #[.int .i64 0, .int .i64 0], #[.int .i64 A0, .int .i64 0]⟩ : Tg) ∈ ([⟨(s4 2), 34, #[.int .i64 0, .int .i64 0], #[.int .i64 p0, .int .i64 0]⟩, ⟨(s4 3), 34, #[.int .i64 0, .int .i64 0], #[.int .i64 A0, .int .i64 0]⟩, ⟨(s7 1), 35, #[.int .i64 0, .int .i64 0, .int .i64 0, .int .i64 0, .int .i64 0, .int .i64 0, .int .i64 0, .int .i64 0, .int .i64 0, .int .i64 0, .slice (none) (0) (0), .int .i64 0, .int .i64 0, .int .i64 0, .int .i64 0, .int .i64 0, .int .i64 0, .int .i64 0, .int .i64 0, .int .i64 0, .int .i64 0, .slice (none) (0) (0)], #[.int .i64 br0, .int .i64 q.bo, .int .i64 q.wa, .int .i64 q.tl, .int .i64 q.se, .int .i64 q.ru, .int .i64 q.wo, .int .i64 q.pl, .int .i64 q.fr, .int .i64 q.ma, .slice (some ⟨g4', 0, none⟩) (1) (c5'), .int .i64 0, .int .i64 0, .int .i64 0, .int .i64 0, .int .i64 0, .int .i64 0, .int .i64 0, .int .i64 0, .int .i64 0, .int .i64 0, .slice (none) (0) (0)]⟩] : List Tg))
 have hm24_2 := hl24 ▸ (.tail _ (.tail _ (.head _)) : (⟨(s7 1), 35, #[.int .i64 0, .int .i64 0, .int .i64 0, .int .i64 0, .int .i64 0, .int .i64 0, .int .i64 0, .int .i64 0, .int .i64 0, .int .i64 0, .slice (none) (0) (0), .int .i64 0, .int .i64 0, .int .i64 0, .int .i64 0, .int .i64 0, .int .i64 0, .int .i64 0, .int .i64 0, .int .i64 0, .int .i64 0, .slice (none) (0) (0)], #[.int .i64 br0, .int .i64 q.bo, .int .i64 q.wa, .int .i64 q.tl, .int .i64 q.se, .int .i64 q.ru, .int .i64 q.wo, .int .i64 q.pl, .int .i64 q.fr, .int .i64 q.ma, .slice (some ⟨g4', 0, none⟩) (1) (c5'), .int .i64 0, .int .i64 0, .int .i64 0, .int .i64 0, .int .i64 0, .int .i64 0, .int .i64 0, .int .i64 0, .int .i64 0, .int .i64 0, .slice (none) (0) (0)]⟩ : Tg) ∈ ([⟨(s4 2), 34, #[.int .i64 0, .int .i64 0], #[.int .i64 p0, .int .i64 0]⟩, ⟨(s4 3), 34, #[.int .i64 0, .int .i64 0], #[.int .i64 A0, .int .i64 0]⟩, ⟨(s7 1), 35, #[.int .i64 0, .int .i64 0, .int .i64 0, .int .i64 0, .int .i64 0, .int .i64 0, .int .i64 0, .int .i64 0, .int .i64 0, .int .i64 0, .slice (none) (0) (0), .int .i64 0, .int .i64 0, .int .i64 0, .int .i64 0, .int .i64 0, .int .i64 0, .int .i64 0, .int .i64 0, .int .i64 0, .int .i64 0, .slice (none) (0) (0)], #[.int .i64 br0, .int .i64 q.bo, .int .i64 q.wa, .int .i64 q.tl, .int .i64 q.se, .int .i64 q.ru, .int .i64 q.wo, .int .i64 q.pl, .int .i64 q.fr, .int .i64 q.ma, .slice (some ⟨g4', 0, none⟩) (1) (c5'), .int .i64 0, .int .i64 0, .int .i64 0, .int .i64 0, .int .i64 0, .int .i64 0, .int .i64 0, .int .i64 0, .int .i64 0, .int .i64 0, .slice (none) (0) (0)]⟩] : List Tg))
 have hdi24 : tgD l24 := hl24 ▸ (by simp only [tgD, List.mem_cons, List.not_mem_nil, or_false, forall_eq_or_imp, forall_eq, false_implies, implies_true, and_true, ne_eq]; omega)
 have nx24_0 : ¬ tgS l24 (s1 0) := fun e => by rw [← hl24] at e; simp only [tgS, or_false] at e; omega
 have nx24_1 : ¬ tgS l24 (s1 1) := fun e => by rw [← hl24] at e; simp only [tgS, or_false] at e; omega
 have nx24_2 : ¬ tgS l24 g4' := fun e => by rw [← hl24] at e; simp only [tgS, or_false] at e; omega
 have nx24_3 : ¬ tgS l24 (s2 15) := fun e => by rw [← hl24] at e; simp only [tgS, or_false] at e; omega
 have nx24_7 : ¬ tgS l24 (s12 1) := fun e => by rw [← hl24] at e; simp only [tgS, or_false] at e; omega
 have nx24_8 : ¬ tgS l24 (s16 8) := fun e => by rw [← hl24] at e; simp only [tgS, or_false] at e; omega
 have nx24_9 : ¬ tgS l24 (s20 7) := fun e => by rw [← hl24] at e; simp only [tgS, or_false] at e; omega
 have hlo24 : ∀ k, tgS l24 k → w.heap.size ≤ k := fun k e => by rw [← hl24] at e; simp only [tgS, or_false] at e; omega
 have hst24 := tgP_stay l24
 have hbl24 : ∀ a b, Below a.heap.size a b → LeX (tgS l24) (tgP l24) a b := LeX.of_below hst24
 as_aux_lemma =>
 refine region_doL (LeX (tgS l24) (tgP l24)) LeX.refl (LeX.drew hst24) LeX.trans (fun _ _ h => h.size) 12 [(134, 0), (135, 1), (136, 2), (137, 3), (138, 4), (139, 5), (140, 6), (141, 8), (142, 10)] [[], [], [], [], [], [], [0, 3], [0, 3, 6], [0, 1, 3, 4, 6, 7], [0, 1, 3, 4, 6, 7, 8], [0, 1, 2, 3, 4, 5, 6, 7, 8, 9], [0, 1, 2, 3, 4, 5, 6, 7, 8, 9, 10]] (rel [is (.int .i64 0),
   is (.int .i64 0),
   is (.int .i64 0),
   is (.int .i64 p0),
   is (.int .i64 A0),
   is (.agg #[.int .i64 br0, .int .i64 q.bo, .int .i64 q.wa, .int .i64 q.tl, .int .i64 q.se, .int .i64 q.ru, .int .i64 q.wo, .int .i64 q.pl, .int .i64 q.fr, .int .i64 q.ma, .slice (some ⟨g4', 0, none⟩) (1) (c5')]),
   is (.pointer (some ⟨(s4 2), 0, none⟩)),
   fun _ _ W => W.heap[(s4 2)]? = some (.cells #[.int .i64 p0, .int .i64 0] 34 (0, 0)),
   is (.pointer (some ⟨(s4 3), 0, none⟩)),
   fun _ _ W => W.heap[(s4 3)]? = some (.cells #[.int .i64 A0, .int .i64 0] 34 (0, 0)),
   is (.pointer (some ⟨(s7 1), 0, none⟩)),
   fun _ _ W => W.heap[(s7 1)]? = some (.cells #[.int .i64 br0, .int .i64 q.bo, .int .i64 q.wa, .int .i64 q.tl, .int .i64 q.se, .int .i64 q.ru, .int .i64 q.wo, .int .i64 q.pl, .int .i64 q.fr, .int .i64 q.ma, .slice (some ⟨g4', 0, none⟩) (1) (c5'), .int .i64 0, .int .i64 0, .int .i64 0, .int .i64 0, .int .i64 0, .int .i64 0, .int .i64 0, .int .i64 0, .int .i64 0, .int .i64 0, .slice (none) (0) (0)] 35 (0, 0))]) (by kernel_rfl) (by kernel_rfl) (by kernel_rfl) (by kernel_rfl)
  ⟨is_kl, is_kl, is_kl, is_kl, is_kl, is_kl, is_kl, nowO_k hm24_0, is_kl, nowO_k hm24_1, is_kl, nowO_k hm24_2, trivial⟩
  ⟨fun f s W hW j m n p i => OpDo.l hbl24 (opv rfl rfl (by simp [go_sem, i.e 12 k23_12]) rfl),
  fun f s W hW j m n p i => OpDo.l hbl24 (opv rfl rfl (by simp [go_sem, i.e 12 k23_12]) rfl),
  fun f s W hW j m n p i => OpDo.l hbl24 (opv rfl rfl (by simp [go_sem, i.e 12 k23_12]) rfl),
  fun f s W hW j m n p i => OpDo.l hbl24 (opv rfl rfl (by simp [go_sem, i.e 19 k23_19]) rfl),
  fun f s W hW j m n p i => OpDo.l hbl24 (opv rfl rfl (by simp [go_sem, i.e 15 k23_15]) rfl),
  fun f s W hW j m n p i => OpDo.l hbl24 (opl rfl rfl rfl (i.v 17 k23_17) (blk_x b23_7 hW nx24_7) Try.underlying32 rfl (by kernel_rfl) rfl),
  fun f s W hW j m n p i => OpDo.l hbl24 (opv rfl rfl (by simp [go_sem, i.e 9 k23_9, i.e 134 (j 0 rfl)]) rfl),
  fun f s W hW j m n p i => stoO_do hdi24 hm24_0 (hW.stay _ (tgP_was hm24_0).1 (.inl b23_4)) rfl (i.v 140 (j 6 rfl)) (i.v 137 (j 3 rfl)) rfl rfl rfl rfl rfl rfl,
  fun f s W hW j m n p i => OpDo.l hbl24 (opv rfl rfl (by simp [go_sem, i.e 10 k23_10, i.e 135 (j 1 rfl)]) rfl),
  fun f s W hW j m n p i => stoO_do hdi24 hm24_1 (hW.stay _ (tgP_was hm24_1).1 (.inl b23_5)) rfl (i.v 141 (j 8 rfl)) (i.v 138 (j 4 rfl)) rfl rfl rfl rfl rfl rfl,
  fun f s W hW j m n p i => OpDo.l hbl24 (opv rfl rfl (by simp [go_sem, i.e 11 k23_11, i.e 136 (j 2 rfl)]) rfl),
  fun f s W hW j m n p i => stoO_do hdi24 hm24_2 (hW.stay _ (tgP_was hm24_2).1 (.inl b23_6)) rfl (i.v 142 (j 10 rfl)) (i.v 139 (j 5 rfl)) rfl rfl rfl rfl rfl rfl, trivial⟩ ?_
 intro f24 s24 W24 hB24
 have fB24 : Below w.heap.size w W24 := (fB23).trans (hB24.le.below (fB23).size hlo24)
 have z24 : W23.heap.size ≤ W24.heap.size := hB24.le.size
 have b24_0 := blk_x b23_0 hB24.le nx24_0
 have b24_1 := blk_x b23_1 hB24.le nx24_1
 have b24_2 := blk_x b23_2 hB24.le nx24_2
 have b24_3 := blk_x b23_3 hB24.le nx24_3
 have b24_4 : W24.heap[(s4 2)]? = some (.cells #[.int .i64 p0, .int .i64 0] 34 (0, 0)) := hB24.is 7
 have b24_5 : W24.heap[(s4 3)]? = some (.cells #[.int .i64 A0, .int .i64 0] 34 (0, 0)) := hB24.is 9
 have b24_6 : W24.heap[(s7 1)]? = some (.cells #[.int .i64 br0, .int .i64 q.bo, .int .i64 q.wa, .int .i64 q.tl, .int .i64 q.se, .int .i64 q.ru, .int .i64 q.wo, .int .i64 q.pl, .int .i64 q.fr, .int .i64 q.ma, .slice (some ⟨g4', 0, none⟩) (1) (c5'), .int .i64 0, .int .i64 0, .int .i64 0, .int .i64 0, .int .i64 0, .int .i64 0, .int .i64 0, .int .i64 0, .int .i64 0, .int .i64 0, .slice (none) (0) (0)] 35 (0, 0)) := hB24.is 11
 have b24_7 := blk_x b23_7 hB24.le nx24_7
 have b24_8 := blk_x b23_8 hB24.le nx24_8
 have b24_9 := blk_x b23_9 hB24.le nx24_9
 generalize hg24 : ov [(134, 0), (135, 1), (136, 2), (137, 3), (138, 4), (139, 5), (140, 6), (141, 8), (142, 10)] f24 g23 = g24
 have k24_1 := kt hg24 1 k23_1
 have k24_3 := kt hg24 3 k23_3
 have k24_6 := kt hg24 6 k23_6
 have k24_7 := kt hg24 7 k23_7
 have k24_8 := kt hg24 8 k23_8
 have k24_9 := kt hg24 9 k23_9
 have k24_10 := kt hg24 10 k23_10
 have k24_11 := kt hg24 11 k23_11
 have k24_12 := kt hg24 12 k23_12
 have k24_46 := kt hg24 46 k23_46
 have k24_15 := kt hg24 15 k23_15
 have k24_16 := kt hg24 16 k23_16
 have k24_63 := kt hg24 63 k23_63
 have k24_17 := kt hg24 17 k23_17
 have k24_66 := kt hg24 66 k23_66
 have k24_67 := kt hg24 67 k23_67
 have k24_73 := kt hg24 73 k23_73
 have k24_74 := kt hg24 74 k23_74
 have k24_75 := kt hg24 75 k23_75
 have k24_18 := kt hg24 18 k23_18
 have k24_19 := kt hg24 19 k23_19
 have k24_20 := kt hg24 20 k23_20
 have k24_81 := kt hg24 81 k23_81
 have k24_82 := kt hg24 82 k23_82
 have k24_21 := kt hg24 21 k23_21
 have k24_22 := kt hg24 22 k23_22
 have k24_133 := kt hg24 133 k23_133
 refine wpOps_end ?_
 refine inBlock_normal ?_
 refine hK10 _ _ ?_
 as_aux_lemma =>
 refine region_dk 3 [(47, 0), (48, 1), (12, 2)] [[], [0], [0, 1]] (rel [is (.int .i64 0),
   is (.int .i64 1),
   is (.int .i64 1)])
  ⟨is_k, is_k, is_k, trivial⟩
  ⟨fun f s W hW j m n p i => opv rfl rfl (by simp [go_sem, i.e 12 ((n 2 12 rfl rfl).trans k24_12)]) rfl,
  fun f s W hW j m n p i => opv rfl rfl (by simp [go_sem, i.e 47 (j 0 rfl), IntWalk.i64_in (1) (by omega)]) rfl,
  fun f s W hW j m n p i => opv rfl rfl (by simp [go_sem, i.e 48 (j 1 rfl)]) rfl, trivial⟩ ?_
 intro f25 s25 W25 hB25 g25 hg25
 have fB25 := hB25.f fB24
 have z25 := hB25.below.size
 have b25_0 := hB25.b b24_0
 have b25_1 := hB25.b b24_1
 have b25_2 := hB25.b b24_2
 have b25_3 := hB25.b b24_3
 have b25_4 := hB25.b b24_4
 have b25_5 := hB25.b b24_5
 have b25_6 := hB25.b b24_6
 have b25_7 := hB25.b b24_7
 have b25_8 := hB25.b b24_8
 have b25_9 := hB25.b b24_9
 refine wpOps_end ?_
 have k25_1 := kt hg25 1 k24_1
 have k25_3 := kt hg25 3 k24_3
 have k25_6 := kt hg25 6 k24_6
 have k25_7 := kt hg25 7 k24_7
 have k25_8 := kt hg25 8 k24_8
 have k25_9 := kt hg25 9 k24_9
 have k25_10 := kt hg25 10 k24_10
 have k25_11 := kt hg25 11 k24_11
 have k25_46 := kt hg25 46 k24_46
 have k25_15 := kt hg25 15 k24_15
 have k25_16 := kt hg25 16 k24_16
 have k25_63 := kt hg25 63 k24_63
 have k25_17 := kt hg25 17 k24_17
 have k25_66 := kt hg25 66 k24_66
 have k25_67 := kt hg25 67 k24_67
 have k25_73 := kt hg25 73 k24_73
 have k25_74 := kt hg25 74 k24_74
 have k25_75 := kt hg25 75 k24_75
 have k25_18 := kt hg25 18 k24_18
 have k25_19 := kt hg25 19 k24_19
 have k25_20 := kt hg25 20 k24_20
 have k25_81 := kt hg25 81 k24_81
 have k25_82 := kt hg25 82 k24_82
 have k25_21 := kt hg25 21 k24_21
 have k25_22 := kt hg25 22 k24_22
 have k25_133 := kt hg25 133 k24_133
 have k25_12 := kt hg25 12 (hB25.is 2)
 refine then_normal ?_
 rw [rounds_succ]
 refine wp_seq_k fun K19 hK19 => ?_
 refine wp_seq_k fun K20 hK20 => ?_
 as_aux_lemma =>
 refine region_dk 2 [(45, 0), (46, 1)] [[], [0]] (rel [is (.int .i64 1),
   is (.bool true)])
  ⟨is_k, is_k, trivial⟩
  ⟨fun f s W hW j m n p i => opv rfl rfl (by simp [go_sem, i.e 12 k25_12]) rfl,
  fun f s W hW j m n p i => opv rfl rfl (by simp [go_sem, i.e 45 (j 0 rfl)]) rfl, trivial⟩ ?_
 intro f26 s26 W26 hB26 g26 hg26
 have fB26 := hB26.f fB25
 have z26 := hB26.below.size
 have b26_0 := hB26.b b25_0
 have b26_1 := hB26.b b25_1
 have b26_2 := hB26.b b25_2
 have b26_3 := hB26.b b25_3
 have b26_4 := hB26.b b25_4
 have b26_5 := hB26.b b25_5
 have b26_6 := hB26.b b25_6
 have b26_7 := hB26.b b25_7
 have b26_8 := hB26.b b25_8
 have b26_9 := hB26.b b25_9
 refine hK20 _ _ ?_
 have k26_1 := kt hg26 1 k25_1
 have k26_3 := kt hg26 3 k25_3
 have k26_6 := kt hg26 6 k25_6
 have k26_7 := kt hg26 7 k25_7
 have k26_8 := kt hg26 8 k25_8
 have k26_9 := kt hg26 9 k25_9
 have k26_10 := kt hg26 10 k25_10
 have k26_11 := kt hg26 11 k25_11
 have k26_15 := kt hg26 15 k25_15
 have k26_16 := kt hg26 16 k25_16
 have k26_63 := kt hg26 63 k25_63
 have k26_17 := kt hg26 17 k25_17
 have k26_66 := kt hg26 66 k25_66
 have k26_67 := kt hg26 67 k25_67
 have k26_73 := kt hg26 73 k25_73
 have k26_74 := kt hg26 74 k25_74
 have k26_75 := kt hg26 75 k25_75
 have k26_18 := kt hg26 18 k25_18
 have k26_19 := kt hg26 19 k25_19
 have k26_20 := kt hg26 20 k25_20
 have k26_81 := kt hg26 81 k25_81
 have k26_82 := kt hg26 82 k25_82
 have k26_21 := kt hg26 21 k25_21
 have k26_22 := kt hg26 22 k25_22
 have k26_133 := kt hg26 133 k25_133
 have k26_12 := kt hg26 12 k25_12
 have k26_46 := kt hg26 46 (hB26.is 1)
 refine wp_cond_true ((fr_eval rfl).trans k26_46) ?_
 refine wp_skip ?_
 refine hK19 _ _ ?_
 refine wp_seq_k fun K22 hK22 => ?_
 refine wp_block ?_
 refine wp_seq_k fun K23 hK23 => ?_
 as_aux_lemma =>
 refine region_dk 18 [(50, 0), (51, 1), (52, 2), (53, 3), (54, 4), (55, 5), (56, 6), (57, 7), (58, 8), (49, 9), (59, 10), (60, 11), (61, 12), (62, 13), (13, 14), (14, 15), (15, 16), (16, 17)] [[], [], [], [2], [2, 3], [2, 3, 4], [1, 2, 3, 4, 5], [0, 1, 2, 3, 4, 5, 6], [0, 1, 2, 3, 4, 5, 6, 7], [0, 1, 2, 3, 4, 5, 6, 7, 8], [0, 1, 2, 3, 4, 5, 6, 7, 8, 9], [0, 1, 2, 3, 4, 5, 6, 7, 8, 9], [0, 1, 2, 3, 4, 5, 6, 7, 8, 9], [0, 1, 2, 3, 4, 5, 6, 7, 8, 9], [0, 1, 2, 3, 4, 5, 6, 7, 8, 9, 10], [0, 1, 2, 3, 4, 5, 6, 7, 8, 9, 10, 11, 14], [0, 1, 2, 3, 4, 5, 6, 7, 8, 9, 10, 11, 12, 14, 15], [0, 1, 2, 3, 4, 5, 6, 7, 8, 9, 10, 11, 12, 13, 14, 15, 16]] (rel [is (.agg #[.int .u8 ((fv 0)), .int .u8 ((fv 1)), .int .u8 ((fv 2)), .int .u8 ((fv 3)), .int .u8 ((fv 4)), .int .u8 ((fv 5)), .int .u8 ((fv 6)), .int .u8 ((fv 7)), .int .u8 ((fv 8)), .int .u8 ((fv 9)), .int .u8 ((fv 10)), .int .u8 ((fv 11)), .int .u8 ((fv 12)), .int .u8 ((fv 13)), .int .u8 ((fv 14)), .int .u8 ((fv 15)), .int .u8 ((fv 16)), .int .u8 ((fv 17)), .int .u8 ((fv 18)), .int .u8 ((fv 19)), .int .u8 ((fv 20)), .int .u8 ((fv 21)), .int .u8 ((fv 22)), .int .u8 ((fv 23)), .int .u8 ((fv 24))]),
   is (.int .i64 1),
   is (.int .u8 mv),
   is (.int .i64 mv),
   is (.int .i64 mo),
   is (.int .i64 (1 + mo)),
   is (.int .i64 (1 + mo)),
   ab fun v W => BoxO 0 tb1 lg1 wd1 hh1 fp1 fq1 sl1 v W,
   is (.tuple #[.int .i64 ac1, .int .i64 al1, .int .i64 A1, .int .i64 0]),
   is (.tuple #[.int .i64 ac1, .int .i64 al1, .int .i64 A1, .int .i64 0]),
   is (.int .i64 ac1),
   is (.int .i64 al1),
   is (.int .i64 A1),
   is (.int .i64 0),
   is (.int .i64 ac1),
   is (.int .i64 al1),
   is (.int .i64 A1),
   is (.int .i64 0)])
  ⟨is_k, is_k, is_k, is_k, is_k, is_k, is_k, ab_k fun v W W' hb h => h.below hb, is_k, is_k, is_k, is_k, is_k, is_k, is_k, is_k, is_k, is_k, trivial⟩
  ⟨fun f s W hW j m n p i => opl rfl rfl rfl (i.v 3 k26_3) (blk_below b26_0 hW) Try.underlying28 rfl (by kernel_rfl) rfl,
  fun f s W hW j m n p i => opv rfl rfl (by simp [go_sem, i.e 12 k26_12]) rfl,
  fun f s W hW j m n p i => opv rfl rfl (by simp [go_sem, i.e 1 k26_1]) rfl,
  fun f s W hW j m n p i => by have cv_ := IntWalk.i64_in mv (by omega); exact opv rfl rfl (by simp [go_sem, i.e 52 (j 2 rfl), cv_]) rfl,
  fun f s W hW j m n p i => by have qu_ : (mv).tmod 50 = mo := (Int.tmod_eq_emod_of_nonneg (by omega)).trans hmo; have qw_ := IntWalk.i64_in mo (by omega); exact opv rfl rfl (by simp [go_sem, i.e 53 (j 3 rfl), qu_, qw_]) rfl,
  fun f s W hW j m n p i => opv rfl rfl (by simp [go_sem, i.e 54 (j 4 rfl), IntWalk.i64_in (1 + mo) (by omega)]) rfl,
  fun f s W hW j m n p i => opv rfl rfl (by simp [go_sem, i.e 51 (j 1 rfl), i.e 55 (j 5 rfl), IntWalk.i64_in (1 + mo) (by omega)]) rfl,
  fun f s W hW j m n p i => opDo_call rfl rfl (by simp [go_sem, i.e 50 (j 0 rfl), i.e 56 (j 6 rfl)]) (hbox1 W) ((fun e W' h => by obtain ⟨v, e1, h1, h2⟩ := h; exact ⟨_, e1, h2, h1.low (Nat.zero_le _)⟩)),
  fun f s W hW j m n p i => by obtain ⟨g24', c27', g25', c28', g26', c29', d7, q30', q31', q32'⟩ := (j 7 rfl); exact opDo_call (args := #[.agg #[.int .i64 tb1, .slice (some ⟨g24', 0, none⟩) (4) (c27'), .int .i64 hh1, .slice (some ⟨g25', 0, none⟩) (2) (c28'), .slice (some ⟨g26', 0, none⟩) (2) (c29'), .int .i64 sl1, .bool false]]) rfl rfl (by simp [go_sem, i.e 57 d7]) (size_any _ (⟨tb1, [lg1, wd1, lg1, wd1], hh1, [fp1, fp1], [fp1, fq1], sl1, false⟩ : Bl) W ⟨_, _, _, _, _, _, _, _, _, rfl, q30'.ii, q31'.ii, q32'.ii⟩) ((fun e W' h => by have h1 := h.1; rw [if_pos hck1, hac1, hal1, hA1] at h1; exact ⟨_, h1, h.2, rfl⟩)),
  fun f s W hW j m n p i => opv rfl rfl (by simp [go_sem, i.e 58 (j 8 rfl)]) rfl,
  fun f s W hW j m n p i => opv rfl rfl (by simp [go_sem, i.e 49 (j 9 rfl)]) rfl,
  fun f s W hW j m n p i => opv rfl rfl (by simp [go_sem, i.e 49 (j 9 rfl)]) rfl,
  fun f s W hW j m n p i => opv rfl rfl (by simp [go_sem, i.e 49 (j 9 rfl)]) rfl,
  fun f s W hW j m n p i => opv rfl rfl (by simp [go_sem, i.e 49 (j 9 rfl)]) rfl,
  fun f s W hW j m n p i => opv rfl rfl (by simp [go_sem, i.e 59 (j 10 rfl)]) rfl,
  fun f s W hW j m n p i => opv rfl rfl (by simp [go_sem, i.e 60 (j 11 rfl)]) rfl,
  fun f s W hW j m n p i => opv rfl rfl (by simp [go_sem, i.e 61 (j 12 rfl)]) rfl,
  fun f s W hW j m n p i => opv rfl rfl (by simp [go_sem, i.e 62 (j 13 rfl)]) rfl, trivial⟩ ?_
 intro f27 s27 W27 hB27 g27 hg27
 have fB27 := hB27.f fB26
 have z27 := hB27.below.size
 have b27_0 := hB27.b b26_0
 have b27_1 := hB27.b b26_1
 have b27_2 := hB27.b b26_2
 have b27_3 := hB27.b b26_3
 have b27_4 := hB27.b b26_4
 have b27_5 := hB27.b b26_5
 have b27_6 := hB27.b b26_6
 have b27_7 := hB27.b b26_7
 have b27_8 := hB27.b b26_8
 have b27_9 := hB27.b b26_9
 refine hK23 _ _ ?_
 have k27_1 := kt hg27 1 k26_1
 have k27_3 := kt hg27 3 k26_3
 have k27_6 := kt hg27 6 k26_6
 have k27_7 := kt hg27 7 k26_7
 have k27_8 := kt hg27 8 k26_8
 have k27_9 := kt hg27 9 k26_9
 have k27_10 := kt hg27 10 k26_10
 have k27_11 := kt hg27 11 k26_11
 have k27_63 := kt hg27 63 k26_63
 have k27_17 := kt hg27 17 k26_17
 have k27_66 := kt hg27 66 k26_66
 have k27_67 := kt hg27 67 k26_67
 have k27_73 := kt hg27 73 k26_73
 have k27_74 := kt hg27 74 k26_74
 have k27_75 := kt hg27 75 k26_75
 have k27_18 := kt hg27 18 k26_18
 have k27_19 := kt hg27 19 k26_19
 have k27_20 := kt hg27 20 k26_20
 have k27_81 := kt hg27 81 k26_81
 have k27_82 := kt hg27 82 k26_82
 have k27_21 := kt hg27 21 k26_21
 have k27_22 := kt hg27 22 k26_22
 have k27_133 := kt hg27 133 k26_133
 have k27_12 := kt hg27 12 k26_12
 have k27_46 := kt hg27 46 k26_46
 have k27_15 := kt hg27 15 (hB27.is 16)
 have k27_16 := kt hg27 16 (hB27.is 17)
 refine wp_seq_k fun K24 hK24 => ?_
 as_aux_lemma =>
 refine region_dk 2 [(63, 0), (17, 1)] [[], [], [0, 1]] (rel [is (.agg #[.int .i64 q.ar, .int .i64 q.bo, .int .i64 q.wa, .int .i64 q.tl, .int .i64 q.se, .int .i64 q.ru, .int .i64 q.wo, .int .i64 q.pl, .int .i64 q.fr, .int .i64 q.ma, .slice (some ⟨g4', 0, none⟩) (1) (c5')]),
   bx 1 #[.int .i64 0, .int .i64 0, .int .i64 0, .int .i64 0, .int .i64 0, .int .i64 0, .int .i64 0, .int .i64 0, .int .i64 0, .int .i64 0, .slice (none) (0) (0)] 32])
  ⟨is_k, bx_k, trivial⟩
  ⟨fun f s W hW j m n p i => opl rfl rfl rfl (i.v 7 k27_7) (blk_below b27_3 hW) Try.underlying32 rfl (by kernel_rfl) rfl,
  fun f s W hW j m n p i => opb rfl rfl (by simp [go_sem]), trivial⟩ ?_
 intro f28 s28 W28 hB28 g28 hg28
 have fB28 := hB28.f fB27
 have z28 := hB28.below.size
 have b28_0 := hB28.b b27_0
 have b28_1 := hB28.b b27_1
 have b28_2 := hB28.b b27_2
 have b28_3 := hB28.b b27_3
 have b28_4 := hB28.b b27_4
 have b28_5 := hB28.b b27_5
 have b28_6 := hB28.b b27_6
 have b28_7 := hB28.b b27_7
 have b28_8 := hB28.b b27_8
 have b28_9 := hB28.b b27_9
 obtain ⟨r28_1, br28_1⟩ := hB28.is 1
 have lr28_1 := hB28.lr 1 br28_1
 have k28_1 := kt hg28 1 k27_1
 have k28_3 := kt hg28 3 k27_3
 have k28_6 := kt hg28 6 k27_6
 have k28_7 := kt hg28 7 k27_7
 have k28_8 := kt hg28 8 k27_8
 have k28_9 := kt hg28 9 k27_9
 have k28_10 := kt hg28 10 k27_10
 have k28_11 := kt hg28 11 k27_11
 have k28_66 := kt hg28 66 k27_66
 have k28_67 := kt hg28 67 k27_67
 have k28_73 := kt hg28 73 k27_73
 have k28_74 := kt hg28 74 k27_74
 have k28_75 := kt hg28 75 k27_75
 have k28_18 := kt hg28 18 k27_18
 have k28_19 := kt hg28 19 k27_19
 have k28_20 := kt hg28 20 k27_20
 have k28_81 := kt hg28 81 k27_81
 have k28_82 := kt hg28 82 k27_82
 have k28_21 := kt hg28 21 k27_21
 have k28_22 := kt hg28 22 k27_22
 have k28_133 := kt hg28 133 k27_133
 have k28_12 := kt hg28 12 k27_12
 have k28_46 := kt hg28 46 k27_46
 have k28_15 := kt hg28 15 k27_15
 have k28_16 := kt hg28 16 k27_16
 have k28_63 := kt hg28 63 (hB28.is 0)
 have k28_17 := kt hg28 17 r28_1
 obtain ⟨W29, hW29⟩ : ∃ W', W' = W28.setRow (s28 1) #[.int .i64 q.ar, .int .i64 q.bo, .int .i64 q.wa, .int .i64 q.tl, .int .i64 q.se, .int .i64 q.ru, .int .i64 q.wo, .int .i64 q.pl, .int .i64 q.fr, .int .i64 q.ma, .slice (some ⟨g4', 0, none⟩) (1) (c5')] := ⟨_, rfl⟩
 refine tail_skip (o := _) rfl ⟨rfl, rfl⟩ (run_seg hW29 (fr_ev k28_17) (fr_ev k28_63) br28_1 rfl rfl rfl rfl) ?_
 obtain ⟨fB29, nb29, ot29, z29⟩ := seg_facts hW29 fB28 br28_1 (by omega)
 clear hW29
 have b29_0 := ot29 _ _ (by omega) b28_0
 have b29_1 := ot29 _ _ (by omega) b28_1
 have b29_2 := ot29 _ _ (by omega) b28_2
 have b29_3 := ot29 _ _ (by omega) b28_3
 have b29_4 := ot29 _ _ (by omega) b28_4
 have b29_5 := ot29 _ _ (by omega) b28_5
 have b29_6 := ot29 _ _ (by omega) b28_6
 have b29_7 := ot29 _ _ (by omega) b28_7
 have b29_8 := ot29 _ _ (by omega) b28_8
 have b29_9 := ot29 _ _ (by omega) b28_9
 refine wpOps_end ?_
 refine hK24 _ _ ?_
 refine wp_seq_k fun K25 hK25 => ?_
 as_aux_lemma =>
 refine region_dk 4 [(64, 0), (65, 1), (66, 2), (67, 3)] [[], [0], [0, 1], [0, 1, 2], [0, 1, 2, 3]] (rel [is (.int .i64 A1),
   is (.int .i64 (A1 + 99)),
   is (.int .i64 br1),
   is (.pointer (some ⟨(s28 1), 0, none⟩))])
  ⟨is_k, is_k, is_k, is_k, trivial⟩
  ⟨fun f s W hW j m n p i => opv rfl rfl (by simp [go_sem, i.e 15 k28_15]) rfl,
  fun f s W hW j m n p i => opv rfl rfl (by simp [go_sem, i.e 64 (j 0 rfl), IntWalk.i64_in (A1 + 99) (by omega)]) rfl,
  fun f s W hW j m n p i => by have qu_ : (A1 + 99).tdiv 100 = br1 := (Int.tdiv_eq_ediv_of_nonneg (by omega)).trans hbr1; have qw_ := IntWalk.i64_in br1 (by omega); exact opv rfl rfl (by simp [go_sem, i.e 65 (j 1 rfl), qu_, qw_]) rfl,
  fun f s W hW j m n p i => opv rfl rfl (by simp [go_sem, i.e 17 k28_17]) rfl, trivial⟩ ?_
 intro f30 s30 W30 hB30 g30 hg30
 have fB30 := hB30.f fB29
 have z30 := hB30.below.size
 have b30_0 := hB30.b b29_0
 have b30_1 := hB30.b b29_1
 have b30_2 := hB30.b b29_2
 have b30_3 := hB30.b b29_3
 have b30_4 := hB30.b b29_4
 have b30_5 := hB30.b b29_5
 have b30_6 := hB30.b b29_6
 have b30_7 := hB30.b b29_7
 have b30_8 := hB30.b b29_8
 have b30_9 := hB30.b b29_9
 have b30_10 := hB30.b nb29
 have k30_1 := kt hg30 1 k28_1
 have k30_3 := kt hg30 3 k28_3
 have k30_6 := kt hg30 6 k28_6
 have k30_7 := kt hg30 7 k28_7
 have k30_8 := kt hg30 8 k28_8
 have k30_9 := kt hg30 9 k28_9
 have k30_10 := kt hg30 10 k28_10
 have k30_11 := kt hg30 11 k28_11
 have k30_73 := kt hg30 73 k28_73
 have k30_74 := kt hg30 74 k28_74
 have k30_75 := kt hg30 75 k28_75
 have k30_18 := kt hg30 18 k28_18
 have k30_19 := kt hg30 19 k28_19
 have k30_20 := kt hg30 20 k28_20
 have k30_81 := kt hg30 81 k28_81
 have k30_82 := kt hg30 82 k28_82
 have k30_21 := kt hg30 21 k28_21
 have k30_22 := kt hg30 22 k28_22
 have k30_133 := kt hg30 133 k28_133
 have k30_12 := kt hg30 12 k28_12
 have k30_46 := kt hg30 46 k28_46
 have k30_15 := kt hg30 15 k28_15
 have k30_16 := kt hg30 16 k28_16
 have k30_63 := kt hg30 63 k28_63
 have k30_17 := kt hg30 17 k28_17
 have k30_66 := kt hg30 66 (hB30.is 2)
 have k30_67 := kt hg30 67 (hB30.is 3)
 obtain ⟨W31, hW31⟩ : ∃ W', W' = W30.setRow (s28 1) #[.int .i64 br1, .int .i64 q.bo, .int .i64 q.wa, .int .i64 q.tl, .int .i64 q.se, .int .i64 q.ru, .int .i64 q.wo, .int .i64 q.pl, .int .i64 q.fr, .int .i64 q.ma, .slice (some ⟨g4', 0, none⟩) (1) (c5')] := ⟨_, rfl⟩
 refine tail_skip (o := _) rfl ⟨rfl, rfl⟩ (run_seg hW31 (fr_ev k30_67) (fr_ev k30_66) b30_10 rfl rfl rfl rfl) ?_
 obtain ⟨fB31, nb31, ot31, z31⟩ := seg_facts hW31 fB30 b30_10 (by omega)
 clear hW31
 have b31_0 := ot31 _ _ (by omega) b30_0
 have b31_1 := ot31 _ _ (by omega) b30_1
 have b31_2 := ot31 _ _ (by omega) b30_2
 have b31_3 := ot31 _ _ (by omega) b30_3
 have b31_4 := ot31 _ _ (by omega) b30_4
 have b31_5 := ot31 _ _ (by omega) b30_5
 have b31_6 := ot31 _ _ (by omega) b30_6
 have b31_7 := ot31 _ _ (by omega) b30_7
 have b31_8 := ot31 _ _ (by omega) b30_8
 have b31_9 := ot31 _ _ (by omega) b30_9
 refine wpOps_end ?_
 refine hK25 _ _ ?_
 refine wp_seq_k fun K26 hK26 => ?_
 as_aux_lemma =>
 refine region_dk 9 [(69, 0), (70, 1), (71, 2), (72, 3), (68, 4), (73, 5), (74, 6), (75, 7), (18, 8), (19, 10), (20, 11)] [[], [0], [], [0, 1, 2], [0, 1, 2, 3], [0, 1, 2, 3, 4], [0, 1, 2, 3, 4], [0, 1, 2, 3, 4], [], [0, 1, 2, 3, 4, 5, 8], [0, 1, 2, 3, 4, 5, 6, 8, 9], [0, 1, 2, 3, 4, 5, 6, 7, 8, 9, 10]] (rel [is (.agg #[.int .i64 br1, .int .i64 q.bo, .int .i64 q.wa, .int .i64 q.tl, .int .i64 q.se, .int .i64 q.ru, .int .i64 q.wo, .int .i64 q.pl, .int .i64 q.fr, .int .i64 q.ma, .slice (some ⟨g4', 0, none⟩) (1) (c5')]),
   ab fun v W => QuV (quA q br1) v W,
   is (.int .i64 (1 + (v4 * 7))),
   is (.tuple #[.agg #[.int .i64 (boardQ (quA q br1) (1 + (v4 * 7))), .int .i64 ((quA q br1).tl), .int .i64 (setQ (quA q br1) (1 + (v4 * 7))), .int .i64 (workQ (quA q br1) (1 + (v4 * 7))), .int .i64 (frQ (quA q br1) (1 + (v4 * 7)))], .int .i64 p1, .int .i64 0]),
   is (.tuple #[.agg #[.int .i64 (boardQ (quA q br1) (1 + (v4 * 7))), .int .i64 ((quA q br1).tl), .int .i64 (setQ (quA q br1) (1 + (v4 * 7))), .int .i64 (workQ (quA q br1) (1 + (v4 * 7))), .int .i64 (frQ (quA q br1) (1 + (v4 * 7)))], .int .i64 p1, .int .i64 0]),
   is (.agg #[.int .i64 (boardQ (quA q br1) (1 + (v4 * 7))), .int .i64 ((quA q br1).tl), .int .i64 (setQ (quA q br1) (1 + (v4 * 7))), .int .i64 (workQ (quA q br1) (1 + (v4 * 7))), .int .i64 (frQ (quA q br1) (1 + (v4 * 7)))]),
   is (.int .i64 p1),
   is (.int .i64 0),
   bx 8 #[.int .i64 0, .int .i64 0, .int .i64 0, .int .i64 0, .int .i64 0] 44])
  ⟨is_k, ab_k fun v W W' hb h => h.below hb, is_k, is_k, is_k, is_k, is_k, is_k, bx_k, trivial⟩
  ⟨fun f s W hW j m n p i => opl rfl rfl rfl (i.v 17 k30_17) (blk_below nb31 hW) Try.underlying32 rfl (by kernel_rfl) rfl,
  fun f s W hW j m n p i => opDo_call (args := #[.agg #[.int .i64 br1, .int .i64 q.bo, .int .i64 q.wa, .int .i64 q.tl, .int .i64 q.se, .int .i64 q.ru, .int .i64 q.wo, .int .i64 q.pl, .int .i64 q.fr, .int .i64 q.ma, .slice (some ⟨g4', 0, none⟩) (1) (c5')]]) rfl rfl (by simp [go_sem, i.e 69 (j 0 rfl)]) ((pubSteps_ok (quA q br1) g4' 0 c5' W (step_of (blk_below b31_2 hW)) : Calls _ _ #[.agg #[.int .i64 br1, .int .i64 q.bo, .int .i64 q.wa, .int .i64 q.tl, .int .i64 q.se, .int .i64 q.ru, .int .i64 q.wo, .int .i64 q.pl, .int .i64 q.fr, .int .i64 q.ma, .slice (some ⟨g4', 0, none⟩) (1) (c5')]] W _)) ((fun e W' h => by obtain ⟨v, e1, h1, h2⟩ := h; exact ⟨_, e1, h2, h1⟩)),
  fun f s W hW j m n p i => opv rfl rfl (by simp [go_sem, i.e 8 k30_8]) rfl,
  fun f s W hW j m n p i => by obtain ⟨g33', o34', c35', d1, q36'⟩ := (j 1 rfl); exact opDo_call rfl rfl (by simp [go_sem, i.e 70 d1, i.e 71 (j 2 rfl)]) (Quote_ok (quA q br1) g33' o34' c35' (1 + (v4 * 7)) W q36' hq1 gn) ((fun e W' h => by have h1 := h.1; rw [hp1] at h1; exact ⟨_, h1, h.2, rfl⟩)),
  fun f s W hW j m n p i => opv rfl rfl (by simp [go_sem, i.e 72 (j 3 rfl)]) rfl,
  fun f s W hW j m n p i => opv rfl rfl (by simp [go_sem, i.e 68 (j 4 rfl)]) rfl,
  fun f s W hW j m n p i => opv rfl rfl (by simp [go_sem, i.e 68 (j 4 rfl)]) rfl,
  fun f s W hW j m n p i => opv rfl rfl (by simp [go_sem, i.e 68 (j 4 rfl)]) rfl,
  fun f s W hW j m n p i => opb rfl rfl (by simp [go_sem]), trivial⟩ ?_
 intro f32 s32 W32 hB32 g32 hg32
 have fB32 := hB32.f fB31
 have z32 := hB32.below.size
 have b32_0 := hB32.b b31_0
 have b32_1 := hB32.b b31_1
 have b32_2 := hB32.b b31_2
 have b32_3 := hB32.b b31_3
 have b32_4 := hB32.b b31_4
 have b32_5 := hB32.b b31_5
 have b32_6 := hB32.b b31_6
 have b32_7 := hB32.b b31_7
 have b32_8 := hB32.b b31_8
 have b32_9 := hB32.b b31_9
 have b32_10 := hB32.b nb31
 obtain ⟨r32_8, br32_8⟩ := hB32.is 8
 have lr32_8 := hB32.lr 8 br32_8
 have k32_1 := kt hg32 1 k30_1
 have k32_3 := kt hg32 3 k30_3
 have k32_6 := kt hg32 6 k30_6
 have k32_7 := kt hg32 7 k30_7
 have k32_8 := kt hg32 8 k30_8
 have k32_9 := kt hg32 9 k30_9
 have k32_10 := kt hg32 10 k30_10
 have k32_11 := kt hg32 11 k30_11
 have k32_81 := kt hg32 81 k30_81
 have k32_82 := kt hg32 82 k30_82
 have k32_21 := kt hg32 21 k30_21
 have k32_22 := kt hg32 22 k30_22
 have k32_133 := kt hg32 133 k30_133
 have k32_12 := kt hg32 12 k30_12
 have k32_46 := kt hg32 46 k30_46
 have k32_15 := kt hg32 15 k30_15
 have k32_16 := kt hg32 16 k30_16
 have k32_63 := kt hg32 63 k30_63
 have k32_17 := kt hg32 17 k30_17
 have k32_66 := kt hg32 66 k30_66
 have k32_67 := kt hg32 67 k30_67
 have k32_73 := kt hg32 73 (hB32.is 5)
 have k32_74 := kt hg32 74 (hB32.is 6)
 have k32_75 := kt hg32 75 (hB32.is 7)
 have k32_18 := kt hg32 18 r32_8
 obtain ⟨W33, hW33⟩ : ∃ W', W' = W32.setRow (s32 8) #[.int .i64 (boardQ (quA q br1) (1 + (v4 * 7))), .int .i64 ((quA q br1).tl), .int .i64 (setQ (quA q br1) (1 + (v4 * 7))), .int .i64 (workQ (quA q br1) (1 + (v4 * 7))), .int .i64 (frQ (quA q br1) (1 + (v4 * 7)))] := ⟨_, rfl⟩
 refine tail_skip (o := _) rfl ⟨rfl, rfl⟩ (run_seg hW33 (fr_ev k32_18) (fr_ev k32_73) br32_8 rfl rfl rfl rfl) ?_
 obtain ⟨fB33, nb33, ot33, z33⟩ := seg_facts hW33 fB32 br32_8 (by omega)
 clear hW33
 have b33_0 := ot33 _ _ (by omega) b32_0
 have b33_1 := ot33 _ _ (by omega) b32_1
 have b33_2 := ot33 _ _ (by omega) b32_2
 have b33_3 := ot33 _ _ (by omega) b32_3
 have b33_4 := ot33 _ _ (by omega) b32_4
 have b33_5 := ot33 _ _ (by omega) b32_5
 have b33_6 := ot33 _ _ (by omega) b32_6
 have b33_7 := ot33 _ _ (by omega) b32_7
 have b33_8 := ot33 _ _ (by omega) b32_8
 have b33_9 := ot33 _ _ (by omega) b32_9
 have b33_10 := ot33 _ _ (by omega) b32_10
 refine tail_value (o := _) rfl rfl rfl (v := .int .i64 p1) (by simp [go_sem, frv 193 k32_74]) ?_
 generalize hg34 : upd g32 19 (.int .i64 p1) = g34
 have k34_1 := ku hg34 1 k32_1
 have k34_3 := ku hg34 3 k32_3
 have k34_6 := ku hg34 6 k32_6
 have k34_7 := ku hg34 7 k32_7
 have k34_8 := ku hg34 8 k32_8
 have k34_9 := ku hg34 9 k32_9
 have k34_10 := ku hg34 10 k32_10
 have k34_11 := ku hg34 11 k32_11
 have k34_81 := ku hg34 81 k32_81
 have k34_82 := ku hg34 82 k32_82
 have k34_21 := ku hg34 21 k32_21
 have k34_22 := ku hg34 22 k32_22
 have k34_133 := ku hg34 133 k32_133
 have k34_12 := ku hg34 12 k32_12
 have k34_46 := ku hg34 46 k32_46
 have k34_15 := ku hg34 15 k32_15
 have k34_16 := ku hg34 16 k32_16
 have k34_63 := ku hg34 63 k32_63
 have k34_17 := ku hg34 17 k32_17
 have k34_66 := ku hg34 66 k32_66
 have k34_67 := ku hg34 67 k32_67
 have k34_73 := ku hg34 73 k32_73
 have k34_74 := ku hg34 74 k32_74
 have k34_75 := ku hg34 75 k32_75
 have k34_18 := ku hg34 18 k32_18
 have k34_19 := kt hg34 19 (upd_same _ _ _)
 refine tail_value (o := _) rfl rfl rfl (v := .int .i64 0) (by simp [go_sem, frv 193 k34_75]) ?_
 generalize hg35 : upd g34 20 (.int .i64 0) = g35
 have k35_1 := ku hg35 1 k34_1
 have k35_3 := ku hg35 3 k34_3
 have k35_6 := ku hg35 6 k34_6
 have k35_7 := ku hg35 7 k34_7
 have k35_8 := ku hg35 8 k34_8
 have k35_9 := ku hg35 9 k34_9
 have k35_10 := ku hg35 10 k34_10
 have k35_11 := ku hg35 11 k34_11
 have k35_81 := ku hg35 81 k34_81
 have k35_82 := ku hg35 82 k34_82
 have k35_21 := ku hg35 21 k34_21
 have k35_22 := ku hg35 22 k34_22
 have k35_133 := ku hg35 133 k34_133
 have k35_12 := ku hg35 12 k34_12
 have k35_46 := ku hg35 46 k34_46
 have k35_15 := ku hg35 15 k34_15
 have k35_16 := ku hg35 16 k34_16
 have k35_63 := ku hg35 63 k34_63
 have k35_17 := ku hg35 17 k34_17
 have k35_66 := ku hg35 66 k34_66
 have k35_67 := ku hg35 67 k34_67
 have k35_73 := ku hg35 73 k34_73
 have k35_74 := ku hg35 74 k34_74
 have k35_75 := ku hg35 75 k34_75
 have k35_18 := ku hg35 18 k34_18
 have k35_19 := ku hg35 19 k34_19
 have k35_20 := kt hg35 20 (upd_same _ _ _)
 refine wpOps_end ?_
 refine hK26 _ _ ?_
 refine wp_seq_k fun K27 hK27 => ?_
 as_aux_lemma =>
 refine region_dk 8 [(77, 0), (78, 1), (79, 2), (80, 3), (76, 4), (81, 5), (82, 6), (21, 7), (22, 9)] [[], [0], [], [0, 1, 2], [0, 1, 2, 3], [0, 1, 2, 3, 4], [0, 1, 2, 3, 4], [], [0, 1, 2, 3, 4, 5, 7], [0, 1, 2, 3, 4, 5, 6, 7, 8]] (rel [is (.agg #[.int .i64 br1, .int .i64 q.bo, .int .i64 q.wa, .int .i64 q.tl, .int .i64 q.se, .int .i64 q.ru, .int .i64 q.wo, .int .i64 q.pl, .int .i64 q.fr, .int .i64 q.ma, .slice (some ⟨g4', 0, none⟩) (1) (c5')]),
   ab fun v W => QuV (quA q br1) v W,
   is (.int .i64 (1 + (v4 * 7))),
   is (.tuple #[.agg #[.int .i64 rr1, .int .i64 dd1], .int .i64 0]),
   is (.tuple #[.agg #[.int .i64 rr1, .int .i64 dd1], .int .i64 0]),
   is (.agg #[.int .i64 rr1, .int .i64 dd1]),
   is (.int .i64 0),
   bx 7 #[.int .i64 0, .int .i64 0] 49])
  ⟨is_k, ab_k fun v W W' hb h => h.below hb, is_k, is_k, is_k, is_k, is_k, bx_k, trivial⟩
  ⟨fun f s W hW j m n p i => opl rfl rfl rfl (i.v 17 k35_17) (blk_below b33_10 hW) Try.underlying32 rfl (by kernel_rfl) rfl,
  fun f s W hW j m n p i => opDo_call (args := #[.agg #[.int .i64 br1, .int .i64 q.bo, .int .i64 q.wa, .int .i64 q.tl, .int .i64 q.se, .int .i64 q.ru, .int .i64 q.wo, .int .i64 q.pl, .int .i64 q.fr, .int .i64 q.ma, .slice (some ⟨g4', 0, none⟩) (1) (c5')]]) rfl rfl (by simp [go_sem, i.e 77 (j 0 rfl)]) ((pubSteps_ok (quA q br1) g4' 0 c5' W (step_of (blk_below b33_2 hW)) : Calls _ _ #[.agg #[.int .i64 br1, .int .i64 q.bo, .int .i64 q.wa, .int .i64 q.tl, .int .i64 q.se, .int .i64 q.ru, .int .i64 q.wo, .int .i64 q.pl, .int .i64 q.fr, .int .i64 q.ma, .slice (some ⟨g4', 0, none⟩) (1) (c5')]] W _)) ((fun e W' h => by obtain ⟨v, e1, h1, h2⟩ := h; exact ⟨_, e1, h2, h1⟩)),
  fun f s W hW j m n p i => opv rfl rfl (by simp [go_sem, i.e 8 k35_8]) rfl,
  fun f s W hW j m n p i => by obtain ⟨g37', o38', c39', d1, q40'⟩ := (j 1 rfl); exact opc rfl rfl (by simp [go_sem, i.e 78 d1, i.e 79 (j 2 rfl)]) (Each_ok (quA q br1) g37' o38' c39' (1 + (v4 * 7)) p1 gg1 rr1 dd1 pn1 nn W q40' hq1 gn hp1 gp1 hpn1 hnn hgg1 ggg1 hrr1 hdd1 grr1 gdd1),
  fun f s W hW j m n p i => opv rfl rfl (by simp [go_sem, i.e 80 (j 3 rfl)]) rfl,
  fun f s W hW j m n p i => opv rfl rfl (by simp [go_sem, i.e 76 (j 4 rfl)]) rfl,
  fun f s W hW j m n p i => opv rfl rfl (by simp [go_sem, i.e 76 (j 4 rfl)]) rfl,
  fun f s W hW j m n p i => opb rfl rfl (by simp [go_sem]), trivial⟩ ?_
 intro f36 s36 W36 hB36 g36 hg36
 have fB36 := hB36.f fB33
 have z36 := hB36.below.size
 have b36_0 := hB36.b b33_0
 have b36_1 := hB36.b b33_1
 have b36_2 := hB36.b b33_2
 have b36_3 := hB36.b b33_3
 have b36_4 := hB36.b b33_4
 have b36_5 := hB36.b b33_5
 have b36_6 := hB36.b b33_6
 have b36_7 := hB36.b b33_7
 have b36_8 := hB36.b b33_8
 have b36_9 := hB36.b b33_9
 have b36_10 := hB36.b b33_10
 have b36_11 := hB36.b nb33
 obtain ⟨r36_7, br36_7⟩ := hB36.is 7
 have lr36_7 := hB36.lr 7 br36_7
 have k36_1 := kt hg36 1 k35_1
 have k36_3 := kt hg36 3 k35_3
 have k36_6 := kt hg36 6 k35_6
 have k36_7 := kt hg36 7 k35_7
 have k36_8 := kt hg36 8 k35_8
 have k36_9 := kt hg36 9 k35_9
 have k36_10 := kt hg36 10 k35_10
 have k36_11 := kt hg36 11 k35_11
 have k36_133 := kt hg36 133 k35_133
 have k36_12 := kt hg36 12 k35_12
 have k36_46 := kt hg36 46 k35_46
 have k36_15 := kt hg36 15 k35_15
 have k36_16 := kt hg36 16 k35_16
 have k36_63 := kt hg36 63 k35_63
 have k36_17 := kt hg36 17 k35_17
 have k36_66 := kt hg36 66 k35_66
 have k36_67 := kt hg36 67 k35_67
 have k36_73 := kt hg36 73 k35_73
 have k36_74 := kt hg36 74 k35_74
 have k36_75 := kt hg36 75 k35_75
 have k36_18 := kt hg36 18 k35_18
 have k36_19 := kt hg36 19 k35_19
 have k36_20 := kt hg36 20 k35_20
 have k36_81 := kt hg36 81 (hB36.is 5)
 have k36_82 := kt hg36 82 (hB36.is 6)
 have k36_21 := kt hg36 21 r36_7
 obtain ⟨W37, hW37⟩ : ∃ W', W' = W36.setRow (s36 7) #[.int .i64 rr1, .int .i64 dd1] := ⟨_, rfl⟩
 refine tail_skip (o := _) rfl ⟨rfl, rfl⟩ (run_seg hW37 (fr_ev k36_21) (fr_ev k36_81) br36_7 rfl rfl rfl rfl) ?_
 obtain ⟨fB37, nb37, ot37, z37⟩ := seg_facts hW37 fB36 br36_7 (by omega)
 clear hW37
 have b37_0 := ot37 _ _ (by omega) b36_0
 have b37_1 := ot37 _ _ (by omega) b36_1
 have b37_2 := ot37 _ _ (by omega) b36_2
 have b37_3 := ot37 _ _ (by omega) b36_3
 have b37_4 := ot37 _ _ (by omega) b36_4
 have b37_5 := ot37 _ _ (by omega) b36_5
 have b37_6 := ot37 _ _ (by omega) b36_6
 have b37_7 := ot37 _ _ (by omega) b36_7
 have b37_8 := ot37 _ _ (by omega) b36_8
 have b37_9 := ot37 _ _ (by omega) b36_9
 have b37_10 := ot37 _ _ (by omega) b36_10
 have b37_11 := ot37 _ _ (by omega) b36_11
 refine tail_value (o := _) rfl rfl rfl (v := .int .i64 0) (by simp [go_sem, frv 193 k36_82]) ?_
 generalize hg38 : upd g36 22 (.int .i64 0) = g38
 have k38_1 := ku hg38 1 k36_1
 have k38_3 := ku hg38 3 k36_3
 have k38_6 := ku hg38 6 k36_6
 have k38_7 := ku hg38 7 k36_7
 have k38_8 := ku hg38 8 k36_8
 have k38_9 := ku hg38 9 k36_9
 have k38_10 := ku hg38 10 k36_10
 have k38_11 := ku hg38 11 k36_11
 have k38_133 := ku hg38 133 k36_133
 have k38_12 := ku hg38 12 k36_12
 have k38_46 := ku hg38 46 k36_46
 have k38_15 := ku hg38 15 k36_15
 have k38_16 := ku hg38 16 k36_16
 have k38_63 := ku hg38 63 k36_63
 have k38_17 := ku hg38 17 k36_17
 have k38_66 := ku hg38 66 k36_66
 have k38_67 := ku hg38 67 k36_67
 have k38_73 := ku hg38 73 k36_73
 have k38_74 := ku hg38 74 k36_74
 have k38_75 := ku hg38 75 k36_75
 have k38_18 := ku hg38 18 k36_18
 have k38_19 := ku hg38 19 k36_19
 have k38_20 := ku hg38 20 k36_20
 have k38_81 := ku hg38 81 k36_81
 have k38_82 := ku hg38 82 k36_82
 have k38_21 := ku hg38 21 k36_21
 have k38_22 := kt hg38 22 (upd_same _ _ _)
 refine wpOps_end ?_
 refine hK27 _ _ ?_
 refine wp_seq_k fun K28 hK28 => ?_
 refine wp_seq_k fun K29 hK29 => ?_
 as_aux_lemma =>
 refine region_dk 51 [(83, 0), (84, 1), (85, 2), (86, 3), (87, 4), (88, 5), (89, 6), (90, 7), (91, 8), (92, 9), (93, 10), (94, 11), (95, 12), (96, 13), (97, 14), (98, 15), (99, 16), (100, 17), (101, 18), (102, 19), (103, 20), (104, 21), (105, 22), (106, 23), (107, 24), (108, 25), (109, 26), (110, 27), (111, 28), (112, 29), (113, 30), (114, 31), (115, 32), (116, 33), (117, 34), (118, 35), (119, 36), (120, 37), (121, 38), (122, 39), (123, 40), (124, 41), (125, 42), (126, 43), (127, 44), (128, 45), (129, 46), (130, 47), (131, 48), (132, 49), (133, 50)] [[], [0], [0, 1], [0, 1, 2], [0, 1, 2, 3], [0, 1, 2, 3, 4], [0, 1, 2, 3, 4, 5], [0, 1, 2, 3, 4, 5, 6], [0, 1, 2, 3, 4, 5, 6, 7], [0, 1, 2, 3, 4, 5, 6, 7, 8], [0, 1, 2, 3, 4, 5, 6, 7, 8, 9], [0, 1, 2, 3, 4, 5, 6, 7, 8, 9, 10], [0, 1, 2, 3, 4, 5, 6, 7, 8, 9, 10, 11], [0, 1, 2, 3, 4, 5, 6, 7, 8, 9, 10, 11, 12], [0, 1, 2, 3, 4, 5, 6, 7, 8, 9, 10, 11, 12, 13], [0, 1, 2, 3, 4, 5, 6, 7, 8, 9, 10, 11, 12, 13, 14], [0, 1, 2, 3, 4, 5, 6, 7, 8, 9, 10, 11, 12, 13, 14, 15], [0, 1, 2, 3, 4, 5, 6, 7, 8, 9, 10, 11, 12, 13, 14, 15, 16], [0, 1, 2, 3, 4, 5, 6, 7, 8, 9, 10, 11, 12, 13, 14, 15, 16, 17], [0, 1, 2, 3, 4, 5, 6, 7, 8, 9, 10, 11, 12, 13, 14, 15, 16, 17, 18], [0, 1, 2, 3, 4, 5, 6, 7, 8, 9, 10, 11, 12, 13, 14, 15, 16, 17, 18, 19], [0, 1, 2, 3, 4, 5, 6, 7, 8, 9, 10, 11, 12, 13, 14, 15, 16, 17, 18, 19, 20], [0, 1, 2, 3, 4, 5, 6, 7, 8, 9, 10, 11, 12, 13, 14, 15, 16, 17, 18, 19, 20, 21], [0, 1, 2, 3, 4, 5, 6, 7, 8, 9, 10, 11, 12, 13, 14, 15, 16, 17, 18, 19, 20, 21, 22], [0, 1, 2, 3, 4, 5, 6, 7, 8, 9, 10, 11, 12, 13, 14, 15, 16, 17, 18, 19, 20, 21, 22, 23], [0, 1, 2, 3, 4, 5, 6, 7, 8, 9, 10, 11, 12, 13, 14, 15, 16, 17, 18, 19, 20, 21, 22, 23, 24], [0, 1, 2, 3, 4, 5, 6, 7, 8, 9, 10, 11, 12, 13, 14, 15, 16, 17, 18, 19, 20, 21, 22, 23], [0, 1, 2, 3, 4, 5, 6, 7, 8, 9, 10, 11, 12, 13, 14, 15, 16, 17, 18, 19, 20, 21, 22, 23, 24, 25, 26], [0, 1, 2, 3, 4, 5, 6, 7, 8, 9, 10, 11, 12, 13, 14, 15, 16, 17, 18, 19, 20, 21, 22, 23, 24, 25, 26, 27], [0, 1, 2, 3, 4, 5, 6, 7, 8, 9, 10, 11, 12, 13, 14, 15, 16, 17, 18, 19, 20, 21, 22, 23, 24, 25, 26, 27, 28], [0, 1, 2, 3, 4, 5, 6, 7, 8, 9, 10, 11, 12, 13, 14, 15, 16, 17, 18, 19, 20, 21, 22, 23, 24, 25, 26, 27, 28, 29], [0, 1, 2, 3, 4, 5, 6, 7, 8, 9, 10, 11, 12, 13, 14, 15, 16, 17, 18, 19, 20, 21, 22, 23, 24, 25, 26, 27, 28, 29, 30], [0, 1, 2, 3, 4, 5, 6, 7, 8, 9, 10, 11, 12, 13, 14, 15, 16, 17, 18, 19, 20, 21, 22, 23, 24, 25, 26, 27, 28, 29, 30, 31], [0, 1, 2, 3, 4, 5, 6, 7, 8, 9, 10, 11, 12, 13, 14, 15, 16, 17, 18, 19, 20, 21, 22, 23, 24, 25, 26, 27, 28, 29, 30, 31, 32], [0, 1, 2, 3, 4, 5, 6, 7, 8, 9, 10, 11, 12, 13, 14, 15, 16, 17, 18, 19, 20, 21, 22, 23, 24, 25, 26, 27, 28, 29, 30, 31, 32, 33], [0, 1, 2, 3, 4, 5, 6, 7, 8, 9, 10, 11, 12, 13, 14, 15, 16, 17, 18, 19, 20, 21, 22, 23, 24, 25, 26, 27, 28, 29, 30, 31, 32, 33, 34], [0, 1, 2, 3, 4, 5, 6, 7, 8, 9, 10, 11, 12, 13, 14, 15, 16, 17, 18, 19, 20, 21, 22, 23, 24, 25, 26, 27, 28, 29, 30, 31, 32, 33, 34, 35], [0, 1, 2, 3, 4, 5, 6, 7, 8, 9, 10, 11, 12, 13, 14, 15, 16, 17, 18, 19, 20, 21, 22, 23, 24, 25, 26, 27, 28, 29, 30, 31, 32, 33, 34], [0, 1, 2, 3, 4, 5, 6, 7, 8, 9, 10, 11, 12, 13, 14, 15, 16, 17, 18, 19, 20, 21, 22, 23, 24, 25, 26, 27, 28, 29, 30, 31, 32, 33, 34, 35, 36, 37], [0, 1, 2, 3, 4, 5, 6, 7, 8, 9, 10, 11, 12, 13, 14, 15, 16, 17, 18, 19, 20, 21, 22, 23, 24, 25, 26, 27, 28, 29, 30, 31, 32, 33, 34, 35, 36, 37, 38], [0, 1, 2, 3, 4, 5, 6, 7, 8, 9, 10, 11, 12, 13, 14, 15, 16, 17, 18, 19, 20, 21, 22, 23, 24, 25, 26, 27, 28, 29, 30, 31, 32, 33, 34, 35, 36, 37, 38, 39], [0, 1, 2, 3, 4, 5, 6, 7, 8, 9, 10, 11, 12, 13, 14, 15, 16, 17, 18, 19, 20, 21, 22, 23, 24, 25, 26, 27, 28, 29, 30, 31, 32, 33, 34, 35, 36, 37, 38, 39, 40], [0, 1, 2, 3, 4, 5, 6, 7, 8, 9, 10, 11, 12, 13, 14, 15, 16, 17, 18, 19, 20, 21, 22, 23, 24, 25, 26, 27, 28, 29, 30, 31, 32, 33, 34, 35, 36, 37, 38, 39, 40, 41], [0, 1, 2, 3, 4, 5, 6, 7, 8, 9, 10, 11, 12, 13, 14, 15, 16, 17, 18, 19, 20, 21, 22, 23, 24, 25, 26, 27, 28, 29, 30, 31, 32, 33, 34, 35, 36, 37, 38, 39, 40], [0, 1, 2, 3, 4, 5, 6, 7, 8, 9, 10, 11, 12, 13, 14, 15, 16, 17, 18, 19, 20, 21, 22, 23, 24, 25, 26, 27, 28, 29, 30, 31, 32, 33, 34, 35, 36, 37, 38, 39, 40, 41, 42, 43], [0, 1, 2, 3, 4, 5, 6, 7, 8, 9, 10, 11, 12, 13, 14, 15, 16, 17, 18, 19, 20, 21, 22, 23, 24, 25, 26, 27, 28, 29, 30, 31, 32, 33, 34, 35, 36, 37, 38, 39, 40], [0, 1, 2, 3, 4, 5, 6, 7, 8, 9, 10, 11, 12, 13, 14, 15, 16, 17, 18, 19, 20, 21, 22, 23, 24, 25, 26, 27, 28, 29, 30, 31, 32, 33, 34, 35, 36, 37, 38, 39, 40], [0, 1, 2, 3, 4, 5, 6, 7, 8, 9, 10, 11, 12, 13, 14, 15, 16, 17, 18, 19, 20, 21, 22, 23, 24, 25, 26, 27, 28, 29, 30, 31, 32, 33, 34, 35, 36, 37, 38, 39, 40, 46], [0, 1, 2, 3, 4, 5, 6, 7, 8, 9, 10, 11, 12, 13, 14, 15, 16, 17, 18, 19, 20, 21, 22, 23, 24, 25, 26, 27, 28, 29, 30, 31, 32, 33, 34, 35, 36, 37, 38, 39, 40, 45, 46, 47], [0, 1, 2, 3, 4, 5, 6, 7, 8, 9, 10, 11, 12, 13, 14, 15, 16, 17, 18, 19, 20, 21, 22, 23, 24, 25, 26, 27, 28, 29, 30, 31, 32, 33, 34, 35, 36, 37, 38, 39, 40, 41, 42, 43, 44, 45, 46, 47, 48], [0, 1, 2, 3, 4, 5, 6, 7, 8, 9, 10, 11, 12, 13, 14, 15, 16, 17, 18, 19, 20, 21, 22, 23, 24, 25, 26, 27, 28, 29, 30, 31, 32, 33, 34, 35, 36, 37, 38, 39, 40, 41, 42, 43, 44, 45, 46, 47, 48, 49]] (rel [is (.int .i64 0),
   is (.bool false),
   is (.bool false),
   is (.int .i64 0),
   is (.bool false),
   is (.bool false),
   is (.bool false),
   is (.int .i64 0),
   is (.bool false),
   is (.bool false),
   is (.bool false),
   is (.int .i64 A1),
   is (.bool false),
   is (.bool false),
   is (.bool false),
   is (.int .i64 p1),
   is (.bool false),
   is (.bool false),
   is (.bool false),
   is (.pointer (some ⟨(s36 7), 1, none⟩)),
   is (.int .i64 dd1),
   is (.bool false),
   is (.bool false),
   is (.bool false),
   is (.pointer (some ⟨(s36 7), 1, none⟩)),
   is (.int .i64 dd1),
   is (.int .i64 (1 + (v4 * 7))),
   is (.bool false),
   is (.bool false),
   is (.bool false),
   is (.pointer (some ⟨(s36 7), 0, none⟩)),
   is (.int .i64 rr1),
   is (.bool false),
   is (.bool false),
   is (.bool false),
   is (.pointer (some ⟨(s36 7), 0, none⟩)),
   is (.int .i64 rr1),
   is (.int .i64 p1),
   is (.bool false),
   is (.bool false),
   is (.bool false),
   is (.pointer (some ⟨(s36 7), 0, none⟩)),
   is (.int .i64 rr1),
   is (.int .i64 (1 + (v4 * 7))),
   is (.int .i64 (rr1 * (1 + (v4 * 7)))),
   is (.int .i64 p1),
   is (.pointer (some ⟨(s36 7), 1, none⟩)),
   is (.int .i64 dd1),
   is (.int .i64 (p1 * dd1)),
   is (.bool false),
   is (.bool false)])
  ⟨is_k, is_k, is_k, is_k, is_k, is_k, is_k, is_k, is_k, is_k, is_k, is_k, is_k, is_k, is_k, is_k, is_k, is_k, is_k, is_k, is_k, is_k, is_k, is_k, is_k, is_k, is_k, is_k, is_k, is_k, is_k, is_k, is_k, is_k, is_k, is_k, is_k, is_k, is_k, is_k, is_k, is_k, is_k, is_k, is_k, is_k, is_k, is_k, is_k, is_k, is_k, trivial⟩
  ⟨fun f s W hW j m n p i => opv rfl rfl (by simp [go_sem, i.e 16 k38_16]) rfl,
  fun f s W hW j m n p i => opv rfl rfl (by simp [go_sem, i.e 83 (j 0 rfl)]) rfl,
  fun f s W hW j m n p i => opv rfl rfl (by simp [go_sem, i.e 84 (j 1 rfl)]) rfl,
  fun f s W hW j m n p i => osure rfl rfl (i.says (d := 85) rfl rfl (j 2 rfl)) (gv (by simp [go_sem, i.e 20 k38_20]) rfl),
  fun f s W hW j m n p i => osure rfl rfl (i.says (d := 85) rfl rfl (j 2 rfl)) (gv (by simp [go_sem, i.e 86 (j 3 rfl)]) rfl),
  fun f s W hW j m n p i => opk (c := false) rfl rfl (fun _ => by simp [go_sem, i.e 85 (j 2 rfl), i.e 87 (j 4 rfl)]) (fun h => absurd h (by decide)),
  fun f s W hW j m n p i => opv rfl rfl (by simp [go_sem, i.e 88 (j 5 rfl)]) rfl,
  fun f s W hW j m n p i => osure rfl rfl (i.says (d := 89) rfl rfl (j 6 rfl)) (gv (by simp [go_sem, i.e 22 k38_22]) rfl),
  fun f s W hW j m n p i => osure rfl rfl (i.says (d := 89) rfl rfl (j 6 rfl)) (gv (by simp [go_sem, i.e 90 (j 7 rfl)]) rfl),
  fun f s W hW j m n p i => opk (c := false) rfl rfl (fun _ => by simp [go_sem, i.e 89 (j 6 rfl), i.e 91 (j 8 rfl)]) (fun h => absurd h (by decide)),
  fun f s W hW j m n p i => opv rfl rfl (by simp [go_sem, i.e 92 (j 9 rfl)]) rfl,
  fun f s W hW j m n p i => osure rfl rfl (i.says (d := 93) rfl rfl (j 10 rfl)) (gv (by simp [go_sem, i.e 15 k38_15]) rfl),
  fun f s W hW j m n p i => osure rfl rfl (i.says (d := 93) rfl rfl (j 10 rfl)) (gv (by simp [go_sem, i.e 94 (j 11 rfl), hd1_0]) rfl),
  fun f s W hW j m n p i => opk (c := false) rfl rfl (fun _ => by simp [go_sem, i.e 93 (j 10 rfl), i.e 95 (j 12 rfl)]) (fun h => absurd h (by decide)),
  fun f s W hW j m n p i => opv rfl rfl (by simp [go_sem, i.e 96 (j 13 rfl)]) rfl,
  fun f s W hW j m n p i => osure rfl rfl (i.says (d := 97) rfl rfl (j 14 rfl)) (gv (by simp [go_sem, i.e 19 k38_19]) rfl),
  fun f s W hW j m n p i => osure rfl rfl (i.says (d := 97) rfl rfl (j 14 rfl)) (gv (by simp [go_sem, i.e 98 (j 15 rfl), hd1_1]) rfl),
  fun f s W hW j m n p i => opk (c := false) rfl rfl (fun _ => by simp [go_sem, i.e 97 (j 14 rfl), i.e 99 (j 16 rfl)]) (fun h => absurd h (by decide)),
  fun f s W hW j m n p i => opv rfl rfl (by simp [go_sem, i.e 100 (j 17 rfl)]) rfl,
  fun f s W hW j m n p i => osure rfl rfl (i.says (d := 101) rfl rfl (j 18 rfl)) (gv (by simp [go_sem, i.e 21 k38_21]) rfl),
  fun f s W hW j m n p i => osure rfl rfl (i.says (d := 101) rfl rfl (j 18 rfl)) (gv (by simp [go_sem, i.e 102 (j 19 rfl), cb nb37 hW 1]) rfl),
  fun f s W hW j m n p i => osure rfl rfl (i.says (d := 101) rfl rfl (j 18 rfl)) (gv (by simp [go_sem, i.e 103 (j 20 rfl), hd1_2]) rfl),
  fun f s W hW j m n p i => opk (c := false) rfl rfl (fun _ => by simp [go_sem, i.e 101 (j 18 rfl), i.e 104 (j 21 rfl)]) (fun h => absurd h (by decide)),
  fun f s W hW j m n p i => opv rfl rfl (by simp [go_sem, i.e 105 (j 22 rfl)]) rfl,
  fun f s W hW j m n p i => osure rfl rfl (i.says (d := 106) rfl rfl (j 23 rfl)) (gv (by simp [go_sem, i.e 21 k38_21]) rfl),
  fun f s W hW j m n p i => osure rfl rfl (i.says (d := 106) rfl rfl (j 23 rfl)) (gv (by simp [go_sem, i.e 107 (j 24 rfl), cb nb37 hW 1]) rfl),
  fun f s W hW j m n p i => osure rfl rfl (i.says (d := 106) rfl rfl (j 23 rfl)) (gv (by simp [go_sem, i.e 8 k38_8]) rfl),
  fun f s W hW j m n p i => osure rfl rfl (i.says (d := 106) rfl rfl (j 23 rfl)) (gv (by simp [go_sem, i.e 108 (j 25 rfl), i.e 109 (j 26 rfl), hd1_3]) rfl),
  fun f s W hW j m n p i => opk (c := false) rfl rfl (fun _ => by simp [go_sem, i.e 106 (j 23 rfl), i.e 110 (j 27 rfl)]) (fun h => absurd h (by decide)),
  fun f s W hW j m n p i => opv rfl rfl (by simp [go_sem, i.e 111 (j 28 rfl)]) rfl,
  fun f s W hW j m n p i => osure rfl rfl (i.says (d := 112) rfl rfl (j 29 rfl)) (gv (by simp [go_sem, i.e 21 k38_21]) rfl),
  fun f s W hW j m n p i => osure rfl rfl (i.says (d := 112) rfl rfl (j 29 rfl)) (gv (by simp [go_sem, i.e 113 (j 30 rfl), cb nb37 hW 0]) rfl),
  fun f s W hW j m n p i => osure rfl rfl (i.says (d := 112) rfl rfl (j 29 rfl)) (gv (by simp [go_sem, i.e 114 (j 31 rfl), hd1_4]) rfl),
  fun f s W hW j m n p i => opk (c := false) rfl rfl (fun _ => by simp [go_sem, i.e 112 (j 29 rfl), i.e 115 (j 32 rfl)]) (fun h => absurd h (by decide)),
  fun f s W hW j m n p i => opv rfl rfl (by simp [go_sem, i.e 116 (j 33 rfl)]) rfl,
  fun f s W hW j m n p i => osure rfl rfl (i.says (d := 117) rfl rfl (j 34 rfl)) (gv (by simp [go_sem, i.e 21 k38_21]) rfl),
  fun f s W hW j m n p i => osure rfl rfl (i.says (d := 117) rfl rfl (j 34 rfl)) (gv (by simp [go_sem, i.e 118 (j 35 rfl), cb nb37 hW 0]) rfl),
  fun f s W hW j m n p i => osure rfl rfl (i.says (d := 117) rfl rfl (j 34 rfl)) (gv (by simp [go_sem, i.e 19 k38_19]) rfl),
  fun f s W hW j m n p i => osure rfl rfl (i.says (d := 117) rfl rfl (j 34 rfl)) (gv (by simp [go_sem, i.e 119 (j 36 rfl), i.e 120 (j 37 rfl), hd1_5]) rfl),
  fun f s W hW j m n p i => opk (c := false) rfl rfl (fun _ => by simp [go_sem, i.e 117 (j 34 rfl), i.e 121 (j 38 rfl)]) (fun h => absurd h (by decide)),
  fun f s W hW j m n p i => opv rfl rfl (by simp [go_sem, i.e 122 (j 39 rfl)]) rfl,
  fun f s W hW j m n p i => osure rfl rfl (i.says (d := 123) rfl rfl (j 40 rfl)) (gv (by simp [go_sem, i.e 21 k38_21]) rfl),
  fun f s W hW j m n p i => osure rfl rfl (i.says (d := 123) rfl rfl (j 40 rfl)) (gv (by simp [go_sem, i.e 124 (j 41 rfl), cb nb37 hW 0]) rfl),
  fun f s W hW j m n p i => osure rfl rfl (i.says (d := 123) rfl rfl (j 40 rfl)) (gv (by simp [go_sem, i.e 8 k38_8]) rfl),
  fun f s W hW j m n p i => osure rfl rfl (i.says (d := 123) rfl rfl (j 40 rfl)) (gv (by simp [go_sem, i.e 125 (j 42 rfl), i.e 126 (j 43 rfl), IntWalk.i64_in (rr1 * (1 + (v4 * 7))) (by rw [hrn1]; exact gpd1)]) rfl),
  fun f s W hW j m n p i => osure rfl rfl (i.says (d := 123) rfl rfl (j 40 rfl)) (gv (by simp [go_sem, i.e 19 k38_19]) rfl),
  fun f s W hW j m n p i => osure rfl rfl (i.says (d := 123) rfl rfl (j 40 rfl)) (gv (by simp [go_sem, i.e 21 k38_21]) rfl),
  fun f s W hW j m n p i => osure rfl rfl (i.says (d := 123) rfl rfl (j 40 rfl)) (gv (by simp [go_sem, i.e 129 (j 46 rfl), cb nb37 hW 1]) rfl),
  fun f s W hW j m n p i => osure rfl rfl (i.says (d := 123) rfl rfl (j 40 rfl)) (gv (by simp [go_sem, i.e 128 (j 45 rfl), i.e 130 (j 47 rfl), IntWalk.i64_in (p1 * dd1) (by exact gpd1)]) rfl),
  fun f s W hW j m n p i => osure rfl rfl (i.says (d := 123) rfl rfl (j 40 rfl)) (gv (by simp [go_sem, i.e 127 (j 44 rfl), i.e 131 (j 48 rfl), hd1_9]) rfl),
  fun f s W hW j m n p i => opk (c := false) rfl rfl (fun _ => by simp [go_sem, i.e 123 (j 40 rfl), i.e 132 (j 49 rfl)]) (fun h => absurd h (by decide)), trivial⟩ ?_
 intro f39 s39 W39 hB39 g39 hg39
 have fB39 := hB39.f fB37
 have z39 := hB39.below.size
 have b39_0 := hB39.b b37_0
 have b39_1 := hB39.b b37_1
 have b39_2 := hB39.b b37_2
 have b39_3 := hB39.b b37_3
 have b39_4 := hB39.b b37_4
 have b39_5 := hB39.b b37_5
 have b39_6 := hB39.b b37_6
 have b39_7 := hB39.b b37_7
 have b39_8 := hB39.b b37_8
 have b39_9 := hB39.b b37_9
 have b39_10 := hB39.b b37_10
 have b39_11 := hB39.b b37_11
 have b39_12 := hB39.b nb37
 refine hK29 _ _ ?_
 have k39_1 := kt hg39 1 k38_1
 have k39_3 := kt hg39 3 k38_3
 have k39_6 := kt hg39 6 k38_6
 have k39_7 := kt hg39 7 k38_7
 have k39_8 := kt hg39 8 k38_8
 have k39_9 := kt hg39 9 k38_9
 have k39_10 := kt hg39 10 k38_10
 have k39_11 := kt hg39 11 k38_11
 have k39_12 := kt hg39 12 k38_12
 have k39_46 := kt hg39 46 k38_46
 have k39_15 := kt hg39 15 k38_15
 have k39_16 := kt hg39 16 k38_16
 have k39_63 := kt hg39 63 k38_63
 have k39_17 := kt hg39 17 k38_17
 have k39_66 := kt hg39 66 k38_66
 have k39_67 := kt hg39 67 k38_67
 have k39_73 := kt hg39 73 k38_73
 have k39_74 := kt hg39 74 k38_74
 have k39_75 := kt hg39 75 k38_75
 have k39_18 := kt hg39 18 k38_18
 have k39_19 := kt hg39 19 k38_19
 have k39_20 := kt hg39 20 k38_20
 have k39_81 := kt hg39 81 k38_81
 have k39_82 := kt hg39 82 k38_82
 have k39_21 := kt hg39 21 k38_21
 have k39_22 := kt hg39 22 k38_22
 have k39_133 := kt hg39 133 (hB39.is 50)
 refine wp_cond_false ((fr_eval rfl).trans k39_133) ?_
 refine wp_skip ?_
 refine hK28 _ _ ?_
 obtain ⟨l40, hl40⟩ : ∃ l : List Tg, [⟨(s4 2), 34, #[.int .i64 p0, .int .i64 0], #[.int .i64 p0, .int .i64 p1]⟩, ⟨(s4 3), 34, #[.int .i64 A0, .int .i64 0], #[.int .i64 A0, .int .i64 A1]⟩, ⟨(s7 1), 35, #[.int .i64 br0, .int .i64 q.bo, .int .i64 q.wa, .int .i64 q.tl, .int .i64 q.se, .int .i64 q.ru, .int .i64 q.wo, .int .i64 q.pl, .int .i64 q.fr, .int .i64 q.ma, .slice (some ⟨g4', 0, none⟩) (1) (c5'), .int .i64 0, .int .i64 0, .int .i64 0, .int .i64 0, .int .i64 0, .int .i64 0, .int .i64 0, .int .i64 0, .int .i64 0, .int .i64 0, .slice (none) (0) (0)], #[.int .i64 br0, .int .i64 q.bo, .int .i64 q.wa, .int .i64 q.tl, .int .i64 q.se, .int .i64 q.ru, .int .i64 q.wo, .int .i64 q.pl, .int .i64 q.fr, .int .i64 q.ma, .slice (some ⟨g4', 0, none⟩) (1) (c5'), .int .i64 br1, .int .i64 q.bo, .int .i64 q.wa, .int .i64 q.tl, .int .i64 q.se, .int .i64 q.ru, .int .i64 q.wo, .int .i64 q.pl, .int .i64 q.fr, .int .i64 q.ma, .slice (some ⟨g4', 0, none⟩) (1) (c5')]⟩] = l := ⟨_, rfl⟩
 have hm40_0 := hl40 ▸ (.head _ : (⟨(s4 2), 34, #[.int .i64 p0, .int .i64 0], #[.int .i64 p0, .int .i64 p1]⟩ : Tg) ∈ ([⟨(s4 2), 34, #[.int .i64 p0, .int .i64 0], #[.int .i64 p0, .int .i64 p1]⟩, ⟨(s4 3), 34, #[.int .i64 A0, .int .i64 0], #[.int .i64 A0, .int .i64 A1]⟩, ⟨(s7 1), 35, #[.int .i64 br0, .int .i64 q.bo, .int .i64 q.wa, .int .i64 q.tl, .int .i64 q.se, .int .i64 q.ru, .int .i64 q.wo, .int .i64 q.pl, .int .i64 q.fr, .int .i64 q.ma, .slice (some ⟨g4', 0, none⟩) (1) (c5'), .int .i64 0, .int .i64 0, .int .i64 0, .int .i64 0, .int .i64 0, .int .i64 0, .int .i64 0, .int .i64 0, .int .i64 0, .int .i64 0, .slice (none) (0) (0)], #[.int .i64 br0, .int .i64 q.bo, .int .i64 q.wa, .int .i64 q.tl, .int .i64 q.se, .int .i64 q.ru, .int .i64 q.wo, .int .i64 q.pl, .int .i64 q.fr, .int .i64 q.ma, .slice (some ⟨g4', 0, none⟩) (1) (c5'), .int .i64 br1, .int .i64 q.bo, .int .i64 q.wa, .int .i64 q.tl, .int .i64 q.se, .int .i64 q.ru, .int .i64 q.wo, .int .i64 q.pl, .int .i64 q.fr, .int .i64 q.ma, .slice (some ⟨g4', 0, none⟩) (1) (c5')]⟩] : List Tg))
 have hm40_1 := hl40 ▸ (.tail _ (.head _) : (⟨(s4 3), 34, #[.int .i64 A0, .int .i64 0], #[.int .i64 A0, .int .i64 A1]⟩ : Tg) ∈ ([⟨(s4 2), 34, #[.int .i64 p0, .int .i64 0], #[.int .i64 p0, .int .i64 p1]⟩, ⟨(s4 3), 34, #[.int .i64 A0, .int .i64 0], #[.int .i64 A0, .int .i64 A1]⟩, ⟨(s7 1), 35, #[.int .i64 br0, .int .i64 q.bo, .int .i64 q.wa, .int .i64 q.tl, .int .i64 q.se, .int .i64 q.ru, .int .i64 q.wo, .int .i64 q.pl, .int .i64 q.fr, .int .i64 q.ma, .slice (some ⟨g4', 0, none⟩) (1) (c5'), .int .i64 0, .int .i64 0, .int .i64 0, .int .i64 0, .int .i64 0, .int .i64 0, .int .i64 0, .int .i64 0, .int .i64 0, .int .i64 0, .slice (none) (0) (0)], #[.int .i64 br0, .int .i64 q.bo, .int .i64 q.wa, .int .i64 q.tl, .int .i64 q.se, .int .i64 q.ru, .int .i64 q.wo, .int .i64 q.pl, .int .i64 q.fr, .int .i64 q.ma, .slice (some ⟨g4', 0, none⟩) (1) (c5'), .int .i64 br1, .int .i64 q.bo, .int .i64 q.wa, .int .i64 q.tl, .int .i64 q.se, .int .i64 q.ru, .int .i64 q.wo, .int .i64 q.pl, .int .i64 q.fr, .int .i64 q.ma, .slice (some ⟨g4', 0, none⟩) (1) (c5')]⟩] : List Tg))
 have hm40_2 := hl40 ▸ (.tail _ (.tail _ (.head _)) : (⟨(s7 1), 35, #[.int .i64 br0, .int .i64 q.bo, .int .i64 q.wa, .int .i64 q.tl, .int .i64 q.se, .int .i64 q.ru, .int .i64 q.wo, .int .i64 q.pl, .int .i64 q.fr, .int .i64 q.ma, .slice (some ⟨g4', 0, none⟩) (1) (c5'), .int .i64 0, .int .i64 0, .int .i64 0, .int .i64 0, .int .i64 0, .int .i64 0, .int .i64 0, .int .i64 0, .int .i64 0, .int .i64 0, .slice (none) (0) (0)], #[.int .i64 br0, .int .i64 q.bo, .int .i64 q.wa, .int .i64 q.tl, .int .i64 q.se, .int .i64 q.ru, .int .i64 q.wo, .int .i64 q.pl, .int .i64 q.fr, .int .i64 q.ma, .slice (some ⟨g4', 0, none⟩) (1) (c5'), .int .i64 br1, .int .i64 q.bo, .int .i64 q.wa, .int .i64 q.tl, .int .i64 q.se, .int .i64 q.ru, .int .i64 q.wo, .int .i64 q.pl, .int .i64 q.fr, .int .i64 q.ma, .slice (some ⟨g4', 0, none⟩) (1) (c5')]⟩ : Tg) ∈ ([⟨(s4 2), 34, #[.int .i64 p0, .int .i64 0], #[.int .i64 p0, .int .i64 p1]⟩, ⟨(s4 3), 34, #[.int .i64 A0, .int .i64 0], #[.int .i64 A0, .int .i64 A1]⟩, ⟨(s7 1), 35, #[.int .i64 br0, .int .i64 q.bo, .int .i64 q.wa, .int .i64 q.tl, .int .i64 q.se, .int .i64 q.ru, .int .i64 q.wo, .int .i64 q.pl, .int .i64 q.fr, .int .i64 q.ma, .slice (some ⟨g4', 0, none⟩) (1) (c5'), .int .i64 0, .int .i64 0, .int .i64 0, .int .i64 0, .int .i64 0, .int .i64 0, .int .i64 0, .int .i64 0, .int .i64 0, .int .i64 0, .slice (none) (0) (0)], #[.int .i64 br0, .int .i64 q.bo, .int .i64 q.wa, .int .i64 q.tl, .int .i64 q.se, .int .i64 q.ru, .int .i64 q.wo, .int .i64 q.pl, .int .i64 q.fr, .int .i64 q.ma, .slice (some ⟨g4', 0, none⟩) (1) (c5'), .int .i64 br1, .int .i64 q.bo, .int .i64 q.wa, .int .i64 q.tl, .int .i64 q.se, .int .i64 q.ru, .int .i64 q.wo, .int .i64 q.pl, .int .i64 q.fr, .int .i64 q.ma, .slice (some ⟨g4', 0, none⟩) (1) (c5')]⟩] : List Tg))
 have hdi40 : tgD l40 := hl40 ▸ (by simp only [tgD, List.mem_cons, List.not_mem_nil, or_false, forall_eq_or_imp, forall_eq, false_implies, implies_true, and_true, ne_eq]; omega)
 have nx40_0 : ¬ tgS l40 (s1 0) := fun e => by rw [← hl40] at e; simp only [tgS, or_false] at e; omega
 have nx40_1 : ¬ tgS l40 (s1 1) := fun e => by rw [← hl40] at e; simp only [tgS, or_false] at e; omega
 have nx40_2 : ¬ tgS l40 g4' := fun e => by rw [← hl40] at e; simp only [tgS, or_false] at e; omega
 have nx40_3 : ¬ tgS l40 (s2 15) := fun e => by rw [← hl40] at e; simp only [tgS, or_false] at e; omega
 have nx40_7 : ¬ tgS l40 (s12 1) := fun e => by rw [← hl40] at e; simp only [tgS, or_false] at e; omega
 have nx40_8 : ¬ tgS l40 (s16 8) := fun e => by rw [← hl40] at e; simp only [tgS, or_false] at e; omega
 have nx40_9 : ¬ tgS l40 (s20 7) := fun e => by rw [← hl40] at e; simp only [tgS, or_false] at e; omega
 have nx40_10 : ¬ tgS l40 (s28 1) := fun e => by rw [← hl40] at e; simp only [tgS, or_false] at e; omega
 have nx40_11 : ¬ tgS l40 (s32 8) := fun e => by rw [← hl40] at e; simp only [tgS, or_false] at e; omega
 have nx40_12 : ¬ tgS l40 (s36 7) := fun e => by rw [← hl40] at e; simp only [tgS, or_false] at e; omega
 have hlo40 : ∀ k, tgS l40 k → w.heap.size ≤ k := fun k e => by rw [← hl40] at e; simp only [tgS, or_false] at e; omega
 have hst40 := tgP_stay l40
 have hbl40 : ∀ a b, Below a.heap.size a b → LeX (tgS l40) (tgP l40) a b := LeX.of_below hst40
 as_aux_lemma =>
 refine region_doL (LeX (tgS l40) (tgP l40)) LeX.refl (LeX.drew hst40) LeX.trans (fun _ _ h => h.size) 12 [(134, 0), (135, 1), (136, 2), (137, 3), (138, 4), (139, 5), (140, 6), (141, 8), (142, 10)] [[], [], [], [], [], [], [0, 3], [0, 3, 6], [0, 1, 3, 4, 6, 7], [0, 1, 3, 4, 6, 7, 8], [0, 1, 2, 3, 4, 5, 6, 7, 8, 9], [0, 1, 2, 3, 4, 5, 6, 7, 8, 9, 10]] (rel [is (.int .i64 1),
   is (.int .i64 1),
   is (.int .i64 1),
   is (.int .i64 p1),
   is (.int .i64 A1),
   is (.agg #[.int .i64 br1, .int .i64 q.bo, .int .i64 q.wa, .int .i64 q.tl, .int .i64 q.se, .int .i64 q.ru, .int .i64 q.wo, .int .i64 q.pl, .int .i64 q.fr, .int .i64 q.ma, .slice (some ⟨g4', 0, none⟩) (1) (c5')]),
   is (.pointer (some ⟨(s4 2), 1, none⟩)),
   fun _ _ W => W.heap[(s4 2)]? = some (.cells #[.int .i64 p0, .int .i64 p1] 34 (0, 0)),
   is (.pointer (some ⟨(s4 3), 1, none⟩)),
   fun _ _ W => W.heap[(s4 3)]? = some (.cells #[.int .i64 A0, .int .i64 A1] 34 (0, 0)),
   is (.pointer (some ⟨(s7 1), 11, none⟩)),
   fun _ _ W => W.heap[(s7 1)]? = some (.cells #[.int .i64 br0, .int .i64 q.bo, .int .i64 q.wa, .int .i64 q.tl, .int .i64 q.se, .int .i64 q.ru, .int .i64 q.wo, .int .i64 q.pl, .int .i64 q.fr, .int .i64 q.ma, .slice (some ⟨g4', 0, none⟩) (1) (c5'), .int .i64 br1, .int .i64 q.bo, .int .i64 q.wa, .int .i64 q.tl, .int .i64 q.se, .int .i64 q.ru, .int .i64 q.wo, .int .i64 q.pl, .int .i64 q.fr, .int .i64 q.ma, .slice (some ⟨g4', 0, none⟩) (1) (c5')] 35 (0, 0))]) (by kernel_rfl) (by kernel_rfl) (by kernel_rfl) (by kernel_rfl)
  ⟨is_kl, is_kl, is_kl, is_kl, is_kl, is_kl, is_kl, nowO_k hm40_0, is_kl, nowO_k hm40_1, is_kl, nowO_k hm40_2, trivial⟩
  ⟨fun f s W hW j m n p i => OpDo.l hbl40 (opv rfl rfl (by simp [go_sem, i.e 12 k39_12]) rfl),
  fun f s W hW j m n p i => OpDo.l hbl40 (opv rfl rfl (by simp [go_sem, i.e 12 k39_12]) rfl),
  fun f s W hW j m n p i => OpDo.l hbl40 (opv rfl rfl (by simp [go_sem, i.e 12 k39_12]) rfl),
  fun f s W hW j m n p i => OpDo.l hbl40 (opv rfl rfl (by simp [go_sem, i.e 19 k39_19]) rfl),
  fun f s W hW j m n p i => OpDo.l hbl40 (opv rfl rfl (by simp [go_sem, i.e 15 k39_15]) rfl),
  fun f s W hW j m n p i => OpDo.l hbl40 (opl rfl rfl rfl (i.v 17 k39_17) (blk_x b39_10 hW nx40_10) Try.underlying32 rfl (by kernel_rfl) rfl),
  fun f s W hW j m n p i => OpDo.l hbl40 (opv rfl rfl (by simp [go_sem, i.e 9 k39_9, i.e 134 (j 0 rfl)]) rfl),
  fun f s W hW j m n p i => stoO_do hdi40 hm40_0 (hW.stay _ (tgP_was hm40_0).1 (.inl b39_4)) rfl (i.v 140 (j 6 rfl)) (i.v 137 (j 3 rfl)) rfl rfl rfl rfl rfl rfl,
  fun f s W hW j m n p i => OpDo.l hbl40 (opv rfl rfl (by simp [go_sem, i.e 10 k39_10, i.e 135 (j 1 rfl)]) rfl),
  fun f s W hW j m n p i => stoO_do hdi40 hm40_1 (hW.stay _ (tgP_was hm40_1).1 (.inl b39_5)) rfl (i.v 141 (j 8 rfl)) (i.v 138 (j 4 rfl)) rfl rfl rfl rfl rfl rfl,
  fun f s W hW j m n p i => OpDo.l hbl40 (opv rfl rfl (by simp [go_sem, i.e 11 k39_11, i.e 136 (j 2 rfl)]) rfl),
  fun f s W hW j m n p i => stoO_do hdi40 hm40_2 (hW.stay _ (tgP_was hm40_2).1 (.inl b39_6)) rfl (i.v 142 (j 10 rfl)) (i.v 139 (j 5 rfl)) rfl rfl rfl rfl rfl rfl, trivial⟩ ?_
 intro f40 s40 W40 hB40
 have fB40 : Below w.heap.size w W40 := (fB39).trans (hB40.le.below (fB39).size hlo40)
 have z40 : W39.heap.size ≤ W40.heap.size := hB40.le.size
 have b40_0 := blk_x b39_0 hB40.le nx40_0
 have b40_1 := blk_x b39_1 hB40.le nx40_1
 have b40_2 := blk_x b39_2 hB40.le nx40_2
 have b40_3 := blk_x b39_3 hB40.le nx40_3
 have b40_4 : W40.heap[(s4 2)]? = some (.cells #[.int .i64 p0, .int .i64 p1] 34 (0, 0)) := hB40.is 7
 have b40_5 : W40.heap[(s4 3)]? = some (.cells #[.int .i64 A0, .int .i64 A1] 34 (0, 0)) := hB40.is 9
 have b40_6 : W40.heap[(s7 1)]? = some (.cells #[.int .i64 br0, .int .i64 q.bo, .int .i64 q.wa, .int .i64 q.tl, .int .i64 q.se, .int .i64 q.ru, .int .i64 q.wo, .int .i64 q.pl, .int .i64 q.fr, .int .i64 q.ma, .slice (some ⟨g4', 0, none⟩) (1) (c5'), .int .i64 br1, .int .i64 q.bo, .int .i64 q.wa, .int .i64 q.tl, .int .i64 q.se, .int .i64 q.ru, .int .i64 q.wo, .int .i64 q.pl, .int .i64 q.fr, .int .i64 q.ma, .slice (some ⟨g4', 0, none⟩) (1) (c5')] 35 (0, 0)) := hB40.is 11
 have b40_7 := blk_x b39_7 hB40.le nx40_7
 have b40_8 := blk_x b39_8 hB40.le nx40_8
 have b40_9 := blk_x b39_9 hB40.le nx40_9
 have b40_10 := blk_x b39_10 hB40.le nx40_10
 have b40_11 := blk_x b39_11 hB40.le nx40_11
 have b40_12 := blk_x b39_12 hB40.le nx40_12
 generalize hg40 : ov [(134, 0), (135, 1), (136, 2), (137, 3), (138, 4), (139, 5), (140, 6), (141, 8), (142, 10)] f40 g39 = g40
 have k40_1 := kt hg40 1 k39_1
 have k40_3 := kt hg40 3 k39_3
 have k40_6 := kt hg40 6 k39_6
 have k40_7 := kt hg40 7 k39_7
 have k40_8 := kt hg40 8 k39_8
 have k40_9 := kt hg40 9 k39_9
 have k40_10 := kt hg40 10 k39_10
 have k40_11 := kt hg40 11 k39_11
 have k40_12 := kt hg40 12 k39_12
 have k40_46 := kt hg40 46 k39_46
 have k40_15 := kt hg40 15 k39_15
 have k40_16 := kt hg40 16 k39_16
 have k40_63 := kt hg40 63 k39_63
 have k40_17 := kt hg40 17 k39_17
 have k40_66 := kt hg40 66 k39_66
 have k40_67 := kt hg40 67 k39_67
 have k40_73 := kt hg40 73 k39_73
 have k40_74 := kt hg40 74 k39_74
 have k40_75 := kt hg40 75 k39_75
 have k40_18 := kt hg40 18 k39_18
 have k40_19 := kt hg40 19 k39_19
 have k40_20 := kt hg40 20 k39_20
 have k40_81 := kt hg40 81 k39_81
 have k40_82 := kt hg40 82 k39_82
 have k40_21 := kt hg40 21 k39_21
 have k40_22 := kt hg40 22 k39_22
 have k40_133 := kt hg40 133 k39_133
 refine wpOps_end ?_
 refine inBlock_normal ?_
 refine hK22 _ _ ?_
 as_aux_lemma =>
 refine region_dk 3 [(47, 0), (48, 1), (12, 2)] [[], [0], [0, 1]] (rel [is (.int .i64 1),
   is (.int .i64 2),
   is (.int .i64 2)])
  ⟨is_k, is_k, is_k, trivial⟩
  ⟨fun f s W hW j m n p i => opv rfl rfl (by simp [go_sem, i.e 12 ((n 2 12 rfl rfl).trans k40_12)]) rfl,
  fun f s W hW j m n p i => opv rfl rfl (by simp [go_sem, i.e 47 (j 0 rfl), IntWalk.i64_in (2) (by omega)]) rfl,
  fun f s W hW j m n p i => opv rfl rfl (by simp [go_sem, i.e 48 (j 1 rfl)]) rfl, trivial⟩ ?_
 intro f41 s41 W41 hB41 g41 hg41
 have fB41 := hB41.f fB40
 have z41 := hB41.below.size
 have b41_0 := hB41.b b40_0
 have b41_1 := hB41.b b40_1
 have b41_2 := hB41.b b40_2
 have b41_3 := hB41.b b40_3
 have b41_4 := hB41.b b40_4
 have b41_5 := hB41.b b40_5
 have b41_6 := hB41.b b40_6
 have b41_7 := hB41.b b40_7
 have b41_8 := hB41.b b40_8
 have b41_9 := hB41.b b40_9
 have b41_10 := hB41.b b40_10
 have b41_11 := hB41.b b40_11
 have b41_12 := hB41.b b40_12
 refine wpOps_end ?_
 have k41_1 := kt hg41 1 k40_1
 have k41_3 := kt hg41 3 k40_3
 have k41_6 := kt hg41 6 k40_6
 have k41_7 := kt hg41 7 k40_7
 have k41_8 := kt hg41 8 k40_8
 have k41_9 := kt hg41 9 k40_9
 have k41_10 := kt hg41 10 k40_10
 have k41_11 := kt hg41 11 k40_11
 have k41_46 := kt hg41 46 k40_46
 have k41_15 := kt hg41 15 k40_15
 have k41_16 := kt hg41 16 k40_16
 have k41_63 := kt hg41 63 k40_63
 have k41_17 := kt hg41 17 k40_17
 have k41_66 := kt hg41 66 k40_66
 have k41_67 := kt hg41 67 k40_67
 have k41_73 := kt hg41 73 k40_73
 have k41_74 := kt hg41 74 k40_74
 have k41_75 := kt hg41 75 k40_75
 have k41_18 := kt hg41 18 k40_18
 have k41_19 := kt hg41 19 k40_19
 have k41_20 := kt hg41 20 k40_20
 have k41_81 := kt hg41 81 k40_81
 have k41_82 := kt hg41 82 k40_82
 have k41_21 := kt hg41 21 k40_21
 have k41_22 := kt hg41 22 k40_22
 have k41_133 := kt hg41 133 k40_133
 have k41_12 := kt hg41 12 (hB41.is 2)
 refine then_normal ?_
 rw [rounds_succ]
 refine wp_seq_k fun K31 hK31 => ?_
 refine wp_seq_k fun K32 hK32 => ?_
 as_aux_lemma =>
 refine region_dk 2 [(45, 0), (46, 1)] [[], [0]] (rel [is (.int .i64 2),
   is (.bool false)])
  ⟨is_k, is_k, trivial⟩
  ⟨fun f s W hW j m n p i => opv rfl rfl (by simp [go_sem, i.e 12 k41_12]) rfl,
  fun f s W hW j m n p i => opv rfl rfl (by simp [go_sem, i.e 45 (j 0 rfl)]) rfl, trivial⟩ ?_
 intro f42 s42 W42 hB42 g42 hg42
 have fB42 := hB42.f fB41
 have z42 := hB42.below.size
 have b42_0 := hB42.b b41_0
 have b42_1 := hB42.b b41_1
 have b42_2 := hB42.b b41_2
 have b42_3 := hB42.b b41_3
 have b42_4 := hB42.b b41_4
 have b42_5 := hB42.b b41_5
 have b42_6 := hB42.b b41_6
 have b42_7 := hB42.b b41_7
 have b42_8 := hB42.b b41_8
 have b42_9 := hB42.b b41_9
 have b42_10 := hB42.b b41_10
 have b42_11 := hB42.b b41_11
 have b42_12 := hB42.b b41_12
 refine hK32 _ _ ?_
 have k42_1 := kt hg42 1 k41_1
 have k42_3 := kt hg42 3 k41_3
 have k42_6 := kt hg42 6 k41_6
 have k42_7 := kt hg42 7 k41_7
 have k42_8 := kt hg42 8 k41_8
 have k42_9 := kt hg42 9 k41_9
 have k42_10 := kt hg42 10 k41_10
 have k42_11 := kt hg42 11 k41_11
 have k42_15 := kt hg42 15 k41_15
 have k42_16 := kt hg42 16 k41_16
 have k42_63 := kt hg42 63 k41_63
 have k42_17 := kt hg42 17 k41_17
 have k42_66 := kt hg42 66 k41_66
 have k42_67 := kt hg42 67 k41_67
 have k42_73 := kt hg42 73 k41_73
 have k42_74 := kt hg42 74 k41_74
 have k42_75 := kt hg42 75 k41_75
 have k42_18 := kt hg42 18 k41_18
 have k42_19 := kt hg42 19 k41_19
 have k42_20 := kt hg42 20 k41_20
 have k42_81 := kt hg42 81 k41_81
 have k42_82 := kt hg42 82 k41_82
 have k42_21 := kt hg42 21 k41_21
 have k42_22 := kt hg42 22 k41_22
 have k42_133 := kt hg42 133 k41_133
 have k42_12 := kt hg42 12 k41_12
 have k42_46 := kt hg42 46 (hB42.is 1)
 refine wp_cond_false ((fr_eval rfl).trans k42_46) ?_
 refine wp_exit ?_
 refine then_exit ?_
 refine then_exit ?_
 refine inBlock_at ?_
 refine hK5 _ _ ?_
 refine wp_seq_k fun K34 hK34 => ?_
 refine wp_seq_k fun K35 hK35 => ?_
 as_aux_lemma =>
 refine region_dk 12 [(143, 0), (144, 1), (145, 2), (146, 3), (147, 4), (148, 5), (149, 6), (150, 7), (151, 8), (152, 9), (153, 10), (154, 11)] [[], [0], [], [2], [0, 1, 2, 3], [0, 1, 2, 3, 4], [0, 1, 2, 3, 4, 5], [0, 1, 2, 3, 4, 5, 6], [0, 1, 2, 3, 4, 5], [0, 1, 2, 3, 4, 5, 8], [0, 1, 2, 3, 4, 5, 6, 7, 8, 9], [0, 1, 2, 3, 4, 5, 6, 7, 8, 9, 10]] (rel [is (.pointer (some ⟨(s4 3), 1, none⟩)),
   is (.int .i64 A1),
   is (.pointer (some ⟨(s4 3), 0, none⟩)),
   is (.int .i64 A0),
   is (.bool false),
   is (.bool false),
   is (.pointer (some ⟨(s4 2), 1, none⟩)),
   is (.int .i64 p1),
   is (.pointer (some ⟨(s4 2), 0, none⟩)),
   is (.int .i64 p0),
   is (.bool false),
   is (.bool false)])
  ⟨is_k, is_k, is_k, is_k, is_k, is_k, is_k, is_k, is_k, is_k, is_k, is_k, trivial⟩
  ⟨fun f s W hW j m n p i => opv rfl rfl (by simp [go_sem, i.e 10 k42_10]) rfl,
  fun f s W hW j m n p i => opv rfl rfl (by simp [go_sem, i.e 143 (j 0 rfl), cb b42_5 hW 1]) rfl,
  fun f s W hW j m n p i => opv rfl rfl (by simp [go_sem, i.e 10 k42_10]) rfl,
  fun f s W hW j m n p i => opv rfl rfl (by simp [go_sem, i.e 145 (j 2 rfl), cb b42_5 hW 0]) rfl,
  fun f s W hW j m n p i => opv rfl rfl (by simp [go_sem, i.e 144 (j 1 rfl), i.e 146 (j 3 rfl), hd2_0]) rfl,
  fun f s W hW j m n p i => opv rfl rfl (by simp [go_sem, i.e 147 (j 4 rfl)]) rfl,
  fun f s W hW j m n p i => osure rfl rfl (i.says (d := 148) rfl rfl (j 5 rfl)) (gv (by simp [go_sem, i.e 9 k42_9]) rfl),
  fun f s W hW j m n p i => osure rfl rfl (i.says (d := 148) rfl rfl (j 5 rfl)) (gv (by simp [go_sem, i.e 149 (j 6 rfl), cb b42_4 hW 1]) rfl),
  fun f s W hW j m n p i => osure rfl rfl (i.says (d := 148) rfl rfl (j 5 rfl)) (gv (by simp [go_sem, i.e 9 k42_9]) rfl),
  fun f s W hW j m n p i => osure rfl rfl (i.says (d := 148) rfl rfl (j 5 rfl)) (gv (by simp [go_sem, i.e 151 (j 8 rfl), cb b42_4 hW 0]) rfl),
  fun f s W hW j m n p i => osure rfl rfl (i.says (d := 148) rfl rfl (j 5 rfl)) (gv (by simp [go_sem, i.e 150 (j 7 rfl), i.e 152 (j 9 rfl), hd2_1]) rfl),
  fun f s W hW j m n p i => opk (c := false) rfl rfl (fun _ => by simp [go_sem, i.e 148 (j 5 rfl), i.e 153 (j 10 rfl)]) (fun h => absurd h (by decide)), trivial⟩ ?_
 intro f43 s43 W43 hB43 g43 hg43
 have fB43 := hB43.f fB42
 have z43 := hB43.below.size
 have b43_0 := hB43.b b42_0
 have b43_1 := hB43.b b42_1
 have b43_2 := hB43.b b42_2
 have b43_3 := hB43.b b42_3
 have b43_4 := hB43.b b42_4
 have b43_5 := hB43.b b42_5
 have b43_6 := hB43.b b42_6
 have b43_7 := hB43.b b42_7
 have b43_8 := hB43.b b42_8
 have b43_9 := hB43.b b42_9
 have b43_10 := hB43.b b42_10
 have b43_11 := hB43.b b42_11
 have b43_12 := hB43.b b42_12
 refine hK35 _ _ ?_
 have k43_6 := kt hg43 6 k42_6
 have k43_8 := kt hg43 8 k42_8
 have k43_9 := kt hg43 9 k42_9
 have k43_11 := kt hg43 11 k42_11
 have k43_154 := kt hg43 154 (hB43.is 11)
 refine wp_cond_false ((fr_eval rfl).trans k43_154) ?_
 refine wp_skip ?_
 refine hK34 _ _ ?_
 refine wp_seq_k fun K37 hK37 => ?_
 as_aux_lemma =>
 refine region_dk 10 [(156, 0), (157, 1), (158, 2), (159, 3), (160, 4), (155, 5), (161, 6), (162, 7), (23, 8), (24, 9)] [[], [0], [], [2], [0, 1, 2, 3], [0, 1, 2, 3, 4], [0, 1, 2, 3, 4, 5], [0, 1, 2, 3, 4, 5], [0, 1, 2, 3, 4, 5, 6], [0, 1, 2, 3, 4, 5, 6, 7, 8]] (rel [is (.pointer (some ⟨(s7 1), 0, none⟩)),
   is (.agg #[.int .i64 br0, .int .i64 q.bo, .int .i64 q.wa, .int .i64 q.tl, .int .i64 q.se, .int .i64 q.ru, .int .i64 q.wo, .int .i64 q.pl, .int .i64 q.fr, .int .i64 q.ma, .slice (some ⟨g4', 0, none⟩) (1) (c5')]),
   is (.pointer (some ⟨(s4 2), 1, none⟩)),
   is (.int .i64 p1),
   is (.tuple #[.int .i64 an0, .int .i64 0]),
   is (.tuple #[.int .i64 an0, .int .i64 0]),
   is (.int .i64 an0),
   is (.int .i64 0),
   is (.int .i64 an0),
   is (.int .i64 0)])
  ⟨is_k, is_k, is_k, is_k, is_k, is_k, is_k, is_k, is_k, is_k, trivial⟩
  ⟨fun f s W hW j m n p i => opv rfl rfl (by simp [go_sem, i.e 11 k43_11]) rfl,
  fun f s W hW j m n p i => opv rfl rfl (by simp [go_sem, i.e 156 (j 0 rfl), cb b43_6 hW 0, cb b43_6 hW 1, cb b43_6 hW 2, cb b43_6 hW 3, cb b43_6 hW 4, cb b43_6 hW 5, cb b43_6 hW 6, cb b43_6 hW 7, cb b43_6 hW 8, cb b43_6 hW 9, cb b43_6 hW 10]) rfl,
  fun f s W hW j m n p i => opv rfl rfl (by simp [go_sem, i.e 9 k43_9]) rfl,
  fun f s W hW j m n p i => opv rfl rfl (by simp [go_sem, i.e 158 (j 2 rfl), cb b43_4 hW 1]) rfl,
  fun f s W hW j m n p i => opc (args := #[.agg #[.int .i64 br0, .int .i64 q.bo, .int .i64 q.wa, .int .i64 q.tl, .int .i64 q.se, .int .i64 q.ru, .int .i64 q.wo, .int .i64 q.pl, .int .i64 q.fr, .int .i64 q.ma, .slice (some ⟨g4', 0, none⟩) (1) (c5')], .int .i64 p1]) rfl rfl (by simp [go_sem, i.e 157 (j 1 rfl), i.e 159 (j 3 rfl)]) ((Budget_ok (quA q br0) g4' 0 c5' p1 an0 W (step_of (blk_below b43_2 hW)) hq0 gp1 gan0 hmm0 : Calls _ _ #[.agg #[.int .i64 br0, .int .i64 q.bo, .int .i64 q.wa, .int .i64 q.tl, .int .i64 q.se, .int .i64 q.ru, .int .i64 q.wo, .int .i64 q.pl, .int .i64 q.fr, .int .i64 q.ma, .slice (some ⟨g4', 0, none⟩) (1) (c5')], .int .i64 p1] W _)),
  fun f s W hW j m n p i => opv rfl rfl (by simp [go_sem, i.e 160 (j 4 rfl)]) rfl,
  fun f s W hW j m n p i => opv rfl rfl (by simp [go_sem, i.e 155 (j 5 rfl)]) rfl,
  fun f s W hW j m n p i => opv rfl rfl (by simp [go_sem, i.e 155 (j 5 rfl)]) rfl,
  fun f s W hW j m n p i => opv rfl rfl (by simp [go_sem, i.e 161 (j 6 rfl)]) rfl,
  fun f s W hW j m n p i => opv rfl rfl (by simp [go_sem, i.e 162 (j 7 rfl)]) rfl, trivial⟩ ?_
 intro f44 s44 W44 hB44 g44 hg44
 have fB44 := hB44.f fB43
 have z44 := hB44.below.size
 have b44_0 := hB44.b b43_0
 have b44_1 := hB44.b b43_1
 have b44_2 := hB44.b b43_2
 have b44_3 := hB44.b b43_3
 have b44_4 := hB44.b b43_4
 have b44_5 := hB44.b b43_5
 have b44_6 := hB44.b b43_6
 have b44_7 := hB44.b b43_7
 have b44_8 := hB44.b b43_8
 have b44_9 := hB44.b b43_9
 have b44_10 := hB44.b b43_10
 have b44_11 := hB44.b b43_11
 have b44_12 := hB44.b b43_12
 refine hK37 _ _ ?_
 have k44_6 := kt hg44 6 k43_6
 have k44_8 := kt hg44 8 k43_8
 have k44_9 := kt hg44 9 k43_9
 have k44_11 := kt hg44 11 k43_11
 have k44_23 := kt hg44 23 (hB44.is 8)
 have k44_24 := kt hg44 24 (hB44.is 9)
 refine wp_seq_k fun K38 hK38 => ?_
 as_aux_lemma =>
 refine region_dk 10 [(164, 0), (165, 1), (166, 2), (167, 3), (168, 4), (163, 5), (169, 6), (170, 7), (25, 8), (26, 9)] [[], [0], [], [2], [0, 1, 2, 3], [0, 1, 2, 3, 4], [0, 1, 2, 3, 4, 5], [0, 1, 2, 3, 4, 5], [0, 1, 2, 3, 4, 5, 6], [0, 1, 2, 3, 4, 5, 6, 7, 8]] (rel [is (.pointer (some ⟨(s7 1), 11, none⟩)),
   is (.agg #[.int .i64 br1, .int .i64 q.bo, .int .i64 q.wa, .int .i64 q.tl, .int .i64 q.se, .int .i64 q.ru, .int .i64 q.wo, .int .i64 q.pl, .int .i64 q.fr, .int .i64 q.ma, .slice (some ⟨g4', 0, none⟩) (1) (c5')]),
   is (.pointer (some ⟨(s4 2), 1, none⟩)),
   is (.int .i64 p1),
   is (.tuple #[.int .i64 an1, .int .i64 0]),
   is (.tuple #[.int .i64 an1, .int .i64 0]),
   is (.int .i64 an1),
   is (.int .i64 0),
   is (.int .i64 an1),
   is (.int .i64 0)])
  ⟨is_k, is_k, is_k, is_k, is_k, is_k, is_k, is_k, is_k, is_k, trivial⟩
  ⟨fun f s W hW j m n p i => opv rfl rfl (by simp [go_sem, i.e 11 k44_11]) rfl,
  fun f s W hW j m n p i => opv rfl rfl (by simp [go_sem, i.e 164 (j 0 rfl), cb b44_6 hW 11, cb b44_6 hW 12, cb b44_6 hW 13, cb b44_6 hW 14, cb b44_6 hW 15, cb b44_6 hW 16, cb b44_6 hW 17, cb b44_6 hW 18, cb b44_6 hW 19, cb b44_6 hW 20, cb b44_6 hW 21]) rfl,
  fun f s W hW j m n p i => opv rfl rfl (by simp [go_sem, i.e 9 k44_9]) rfl,
  fun f s W hW j m n p i => opv rfl rfl (by simp [go_sem, i.e 166 (j 2 rfl), cb b44_4 hW 1]) rfl,
  fun f s W hW j m n p i => opc (args := #[.agg #[.int .i64 br1, .int .i64 q.bo, .int .i64 q.wa, .int .i64 q.tl, .int .i64 q.se, .int .i64 q.ru, .int .i64 q.wo, .int .i64 q.pl, .int .i64 q.fr, .int .i64 q.ma, .slice (some ⟨g4', 0, none⟩) (1) (c5')], .int .i64 p1]) rfl rfl (by simp [go_sem, i.e 165 (j 1 rfl), i.e 167 (j 3 rfl)]) ((Budget_ok (quA q br1) g4' 0 c5' p1 an1 W (step_of (blk_below b44_2 hW)) hq1 gp1 gan1 hmm1 : Calls _ _ #[.agg #[.int .i64 br1, .int .i64 q.bo, .int .i64 q.wa, .int .i64 q.tl, .int .i64 q.se, .int .i64 q.ru, .int .i64 q.wo, .int .i64 q.pl, .int .i64 q.fr, .int .i64 q.ma, .slice (some ⟨g4', 0, none⟩) (1) (c5')], .int .i64 p1] W _)),
  fun f s W hW j m n p i => opv rfl rfl (by simp [go_sem, i.e 168 (j 4 rfl)]) rfl,
  fun f s W hW j m n p i => opv rfl rfl (by simp [go_sem, i.e 163 (j 5 rfl)]) rfl,
  fun f s W hW j m n p i => opv rfl rfl (by simp [go_sem, i.e 163 (j 5 rfl)]) rfl,
  fun f s W hW j m n p i => opv rfl rfl (by simp [go_sem, i.e 169 (j 6 rfl)]) rfl,
  fun f s W hW j m n p i => opv rfl rfl (by simp [go_sem, i.e 170 (j 7 rfl)]) rfl, trivial⟩ ?_
 intro f45 s45 W45 hB45 g45 hg45
 have fB45 := hB45.f fB44
 have z45 := hB45.below.size
 have b45_0 := hB45.b b44_0
 have b45_1 := hB45.b b44_1
 have b45_2 := hB45.b b44_2
 have b45_3 := hB45.b b44_3
 have b45_4 := hB45.b b44_4
 have b45_5 := hB45.b b44_5
 have b45_6 := hB45.b b44_6
 have b45_7 := hB45.b b44_7
 have b45_8 := hB45.b b44_8
 have b45_9 := hB45.b b44_9
 have b45_10 := hB45.b b44_10
 have b45_11 := hB45.b b44_11
 have b45_12 := hB45.b b44_12
 refine hK38 _ _ ?_
 have k45_6 := kt hg45 6 k44_6
 have k45_8 := kt hg45 8 k44_8
 have k45_23 := kt hg45 23 k44_23
 have k45_24 := kt hg45 24 k44_24
 have k45_25 := kt hg45 25 (hB45.is 8)
 have k45_26 := kt hg45 26 (hB45.is 9)
 refine wp_seq_k fun K39 hK39 => ?_
 as_aux_lemma =>
 refine region_dk 23 [(171, 0), (172, 1), (173, 2), (174, 3), (175, 4), (176, 5), (177, 6), (178, 7), (179, 8), (180, 9), (181, 10), (182, 11), (183, 12), (184, 13), (185, 14), (186, 15), (187, 16), (188, 17), (189, 18), (190, 19), (191, 20), (192, 21), (6, 22)] [[], [0], [0, 1], [0, 1, 2], [0, 1, 2, 3], [0, 1, 2, 3, 4], [0, 1, 2, 3, 4, 5], [0, 1, 2, 3, 4, 5, 6], [0, 1, 2, 3, 4, 5, 6], [0, 1, 2, 3, 4, 5, 6, 7, 8], [0, 1, 2, 3, 4, 5, 6, 7, 8, 9], [0, 1, 2, 3, 4, 5, 6, 7, 8, 9, 10], [0, 1, 2, 3, 4, 5, 6, 7, 8, 9, 10, 11], [0, 1, 2, 3, 4, 5, 6, 7, 8, 9, 10, 11], [0, 1, 2, 3, 4, 5, 6, 7, 8, 9, 10, 11, 12, 13], [0, 1, 2, 3, 4, 5, 6, 7, 8, 9, 10, 11, 12, 13, 14], [0, 1, 2, 3, 4, 5, 6, 7, 8, 9, 10, 11, 12, 13, 14, 15], [0, 1, 2, 3, 4, 5, 6, 7, 8, 9, 10, 11, 12, 13, 14, 15, 16], [0, 1, 2, 3, 4, 5, 6, 7, 8, 9, 10, 11, 12, 13, 14, 15, 16, 17], [0, 1, 2, 3, 4, 5, 6, 7, 8, 9, 10, 11, 12, 13, 14, 15, 16, 17, 18], [0, 1, 2, 3, 4, 5, 6, 7, 8, 9, 10, 11, 12, 13, 14, 15, 16, 17, 18, 19], [0, 1, 2, 3, 4, 5, 6, 7, 8, 9, 10, 11, 12, 13, 14, 15, 16, 17, 18, 19, 20], [0, 1, 2, 3, 4, 5, 6, 7, 8, 9, 10, 11, 12, 13, 14, 15, 16, 17, 18, 19, 20, 21]] (rel [is (.int .i64 0),
   is (.bool true),
   is (.bool true),
   is (.int .i64 0),
   is (.bool true),
   is (.bool true),
   is (.bool true),
   is (.int .i64 an0),
   is (.int .i64 an1),
   is (.bool true),
   is (.bool true),
   is (.bool true),
   is (.int .i64 an1),
   is (.int .i64 (1 + (v4 * 7))),
   is (.bool true),
   is (.bool true),
   is (.bool true),
   is (.bool true),
   is (.bool true),
   is (.bool true),
   is (.bool true),
   is (.bool true),
   is (.bool true)])
  ⟨is_k, is_k, is_k, is_k, is_k, is_k, is_k, is_k, is_k, is_k, is_k, is_k, is_k, is_k, is_k, is_k, is_k, is_k, is_k, is_k, is_k, is_k, is_k, trivial⟩
  ⟨fun f s W hW j m n p i => opv rfl rfl (by simp [go_sem, i.e 24 k45_24]) rfl,
  fun f s W hW j m n p i => opv rfl rfl (by simp [go_sem, i.e 171 (j 0 rfl)]) rfl,
  fun f s W hW j m n p i => opv rfl rfl (by simp [go_sem, i.e 172 (j 1 rfl)]) rfl,
  fun f s W hW j m n p i => osure rfl rfl (i.says (d := 173) rfl rfl (j 2 rfl)) (gv (by simp [go_sem, i.e 26 k45_26]) rfl),
  fun f s W hW j m n p i => osure rfl rfl (i.says (d := 173) rfl rfl (j 2 rfl)) (gv (by simp [go_sem, i.e 174 (j 3 rfl)]) rfl),
  fun f s W hW j m n p i => opk (c := true) rfl rfl (fun h => absurd h (by decide)) (fun _ => by simp [go_sem, i.e 173 (j 2 rfl), i.e 175 (j 4 rfl)]),
  fun f s W hW j m n p i => opv rfl rfl (by simp [go_sem, i.e 176 (j 5 rfl)]) rfl,
  fun f s W hW j m n p i => osure rfl rfl (i.says (d := 177) rfl rfl (j 6 rfl)) (gv (by simp [go_sem, i.e 23 k45_23]) rfl),
  fun f s W hW j m n p i => osure rfl rfl (i.says (d := 177) rfl rfl (j 6 rfl)) (gv (by simp [go_sem, i.e 25 k45_25]) rfl),
  fun f s W hW j m n p i => osure rfl rfl (i.says (d := 177) rfl rfl (j 6 rfl)) (gv (by simp [go_sem, i.e 178 (j 7 rfl), i.e 179 (j 8 rfl), hd2_2]) rfl),
  fun f s W hW j m n p i => opk (c := true) rfl rfl (fun h => absurd h (by decide)) (fun _ => by simp [go_sem, i.e 177 (j 6 rfl), i.e 180 (j 9 rfl)]),
  fun f s W hW j m n p i => opv rfl rfl (by simp [go_sem, i.e 181 (j 10 rfl)]) rfl,
  fun f s W hW j m n p i => osure rfl rfl (i.says (d := 182) rfl rfl (j 11 rfl)) (gv (by simp [go_sem, i.e 25 k45_25]) rfl),
  fun f s W hW j m n p i => osure rfl rfl (i.says (d := 182) rfl rfl (j 11 rfl)) (gv (by simp [go_sem, i.e 8 k45_8]) rfl),
  fun f s W hW j m n p i => osure rfl rfl (i.says (d := 182) rfl rfl (j 11 rfl)) (gv (by simp [go_sem, i.e 183 (j 12 rfl), i.e 184 (j 13 rfl), hd2_3]) rfl),
  fun f s W hW j m n p i => opk (c := true) rfl rfl (fun h => absurd h (by decide)) (fun _ => by simp [go_sem, i.e 182 (j 11 rfl), i.e 185 (j 14 rfl)]),
  fun f s W hW j m n p i => opv rfl rfl (by simp [go_sem, i.e 186 (j 15 rfl)]) rfl,
  fun f s W hW j m n p i => osure rfl rfl (i.says (d := 187) rfl rfl (j 16 rfl)) (gc (by simp [go_sem]) (pubScore_yes W)),
  fun f s W hW j m n p i => opk (c := true) rfl rfl (fun h => absurd h (by decide)) (fun _ => by simp [go_sem, i.e 187 (j 16 rfl), i.e 188 (j 17 rfl)]),
  fun f s W hW j m n p i => opv rfl rfl (by simp [go_sem, i.e 189 (j 18 rfl)]) rfl,
  fun f s W hW j m n p i => osure rfl rfl (i.says (d := 190) rfl rfl (j 19 rfl)) (gc (by simp [go_sem]) (pubPrice_yes W)),
  fun f s W hW j m n p i => opk (c := true) rfl rfl (fun h => absurd h (by decide)) (fun _ => by simp [go_sem, i.e 190 (j 19 rfl), i.e 191 (j 20 rfl)]),
  fun f s W hW j m n p i => opv rfl rfl (by simp [go_sem, i.e 192 (j 21 rfl)]) rfl, trivial⟩ ?_
 intro f46 s46 W46 hB46 g46 hg46
 have fB46 := hB46.f fB45
 have z46 := hB46.below.size
 have b46_0 := hB46.b b45_0
 have b46_1 := hB46.b b45_1
 have b46_2 := hB46.b b45_2
 have b46_3 := hB46.b b45_3
 have b46_4 := hB46.b b45_4
 have b46_5 := hB46.b b45_5
 have b46_6 := hB46.b b45_6
 have b46_7 := hB46.b b45_7
 have b46_8 := hB46.b b45_8
 have b46_9 := hB46.b b45_9
 have b46_10 := hB46.b b45_10
 have b46_11 := hB46.b b45_11
 have b46_12 := hB46.b b45_12
 refine hK39 _ _ ?_
 have k46_6 := kt hg46 6 (hB46.is 22)
 refine wp_ret ?_
 refine leave_one (N := 193) (v := .bool true) (.inr rfl) Try.results3 rfl k46_6 ?_
 exact ⟨rfl, fB46⟩
end Go.Proofs.Ytolnpbpeifpbjaa
