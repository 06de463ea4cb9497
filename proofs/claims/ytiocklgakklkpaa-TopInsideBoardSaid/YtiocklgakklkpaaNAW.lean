/- Part of the proof: what the claim leans on. -/
import Derived.Test.YtiocklgakklkpaaNAV
import Derived.Test.YtiocklgakklkpaaNAR
set_option linter.unusedSimpArgs false
set_option linter.unusedVariables false
namespace Go.Proofs.Ytiocklgakklkpaa
open Go.RowKit
def RowV (T : TypeId) (z B n : Nat) (cs : List Value) (v : Value) (W : World) : Prop := ∃ g c, v = .slice (some ⟨g, 0, none⟩) n c ∧ OwnR T z B n cs g c W
theorem RowV.below {T : TypeId} {z B n : Nat} {cs : List Value} {v : Value} {W W' : World} (h : RowV T z B n cs v W) (hb : Below W.heap.size W W') : RowV T z B n cs v W' := by
  obtain ⟨g, c, e, h⟩ := h; exact ⟨g, c, e, h.below hb⟩
theorem OwnR.low {T : TypeId} {z B B' n g c : Nat} {cs : List Value} {W : World} (h : OwnR T z B n cs g c W) (hB : B' ≤ B) : OwnR T z B' n cs g c W := ⟨Nat.le_trans hB h.1, h.2.1, ownsRow_low h.2.2 hB⟩
def StoO (B : Nat) (ps : Nat → Pa) (qs : Nat → Fu) (v : Value) (W : World) : Prop := ∃ g1 c1 g2 c2, v = .agg #[.slice (some ⟨g1, 0, none⟩) 3 c1, .slice (some ⟨g2, 0, none⟩) 2 c2] ∧ OwnR 68 8 B 3 (paCells3 ps) g1 c1 W ∧ OwnR 70 4 B 2 (fuCells2 qs) g2 c2 W
theorem StoO.below {B : Nat} {ps : Nat → Pa} {qs : Nat → Fu} {v : Value} {W W' : World} (h : StoO B ps qs v W) (hb : Below W.heap.size W W') : StoO B ps qs v W' := by
  obtain ⟨g1, c1, g2, c2, e, h1, h2⟩ := h; exact ⟨g1, c1, g2, c2, e, h1.below hb, h2.below hb⟩
def StoOP (ps : Nat → Pa) (qs : Nat → Fu) (w : World) (e : Ending) (w' : World) : Prop := ∃ v, e = .returned v ∧ StoO w.heap.size ps qs v w' ∧ Below w.heap.size w w'
theorem ownR_ne {T T' : TypeId} {z B n g c b : Nat} {cs : List Value} {cs0 : Array Value} {W : World} (h : OwnR T z B n cs g c W) (hb : W.heap[b]? = some (.cells cs0 T' (0, 0))) (hT : (T' != T) = true := by decide) : g ≠ b := by
  rintro rfl
  have hT' : T' ≠ T := bne_iff_ne.1 hT
  rcases h.2.2.2 with ⟨e, -⟩ | ⟨g', cap, cur, e, -, h6, -⟩
  · cases e
  · cases e
    rw [hb] at h6
    simp only [Option.some.injEq, Obj.cells.injEq] at h6
    exact hT' h6.2.1
theorem cloneP3 (ty : TypeId) (B : Nat) (W : World) (g b off c : Nat) (ps : Nat → Pa) (h : PaR W b off 3 ps) (hB : B ≤ W.heap.size) :
    ∃ v W', (Builtin.append_ #[30, 30] ty #[.slice (some ⟨g, 0, none⟩) 0 0, .slice (some ⟨b, off, none⟩) 3 c]).run Try.prog W = .ok v W' ∧ Below W.heap.size W W' ∧ RowV 68 8 B 3 (paCells3 ps) v W' := by
  obtain ⟨v, W', hr, hb, g', c', e, ho⟩ := cloneR_run 30 ty 68 8 64 _ (by kernel_rfl) Try.infoP rfl W g b off 3 c (paCells3 ps) rfl (by decide) h.cells3 (by decide)
  exact ⟨v, W', hr, hb, g', c', e, ho.low hB⟩
theorem cloneF2 (ty : TypeId) (B : Nat) (W : World) (g b off c : Nat) (qs : Nat → Fu) (h : FuR W b off 2 qs) (hB : B ≤ W.heap.size) :
    ∃ v W', (Builtin.append_ #[31, 31] ty #[.slice (some ⟨g, 0, none⟩) 0 0, .slice (some ⟨b, off, none⟩) 2 c]).run Try.prog W = .ok v W' ∧ Below W.heap.size W W' ∧ RowV 70 4 B 2 (fuCells2 qs) v W' := by
  obtain ⟨v, W', hr, hb, g', c', e, ho⟩ := cloneR_run 31 ty 70 4 32 _ (by kernel_rfl) Try.infoF rfl W g b off 2 c (fuCells2 qs) rfl (by decide) h.cells2 (by decide)
  exact ⟨v, W', hr, hb, g', c', e, ho.low hB⟩
/-- The papers and the flutes of the tops' store. -/
def paF (fv lw tt mm dd : Nat → Int) (i : Nat) : Pa := ⟨match i with | 1 => 2 | _ => 1, 80 + fv (4 * i), lw i, lw i + tt i, mm i, mm i + dd i, 2000 * fv (4 * i), 5 * fv (4 * i + 1)⟩
def fuF (pc ee hg uu : Nat → Int) (i : Nat) : Fu := ⟨pc i, pc i + ee i, hg i, hg i + uu i⟩
set_option maxRecDepth 100000 in
set_option maxHeartbeats 4000000 in
theorem pubOwn_any (ps : Nat → Pa) (qs : Nat → Fu) (bp oP cp bq oq cq : Nat) (w : World) (hP : PaR w bp oP 3 ps) (hQ : FuR w bq oq 2 qs) :
  Calls Try.prog 9 #[.agg #[.slice (some ⟨bp, oP, none⟩) (3) (cp), .slice (some ⟨bq, oq, none⟩) (2) (cq)]] w (StoOP ps qs w) := by
 refine calls_fr Try.func9 Try.ntmps9 rfl rfl fun g hg => ?_
 have k0 : g 0 = .agg #[.slice (some ⟨bp, oP, none⟩) (3) (cp), .slice (some ⟨bq, oq, none⟩) (2) (cq)] := hg 0
 clear hg
 have fB0 : Below w.heap.size w w := Below.refl _ _
 refine wp_seq_k fun K1 hK1 => ?_
 refine region_dk 2 [(1, 0), (2, 1)] [[], []] (rel [bx 0 #[.slice (some ⟨bp, oP, none⟩) (3) (cp), .slice (some ⟨bq, oq, none⟩) (2) (cq)] 33,
   bx 1 #[.slice (none) (0) (0), .slice (none) (0) (0)] 33])
  ⟨bx_k, bx_k, trivial⟩
  ⟨fun f s W c d i j k a => opb rfl rfl (by simp [go_sem, a.e 0 k0]),
  fun f s W c d i j k a => opb rfl rfl (by simp [go_sem]), trivial⟩ ?_
 intro f1 s1 W1 hB1 g1 hg1
 have fB1 := hB1.f fB0
 have z1 := hB1.below.size
 obtain ⟨r1_0, br1_0⟩ := hB1.is 0
 have lr1_0 := hB1.lr 0 br1_0
 obtain ⟨r1_1, br1_1⟩ := hB1.is 1
 have lr1_1 := hB1.lr 1 br1_1
 have ne1_0_1 := hB1.nb 0 1
 refine hK1 _ _ ?_
 have k1_1 := kt hg1 1 r1_0
 have k1_2 := kt hg1 2 r1_1
 refine wp_seq_k fun K2 hK2 => ?_
 refine region_dk 9 [(3, 0), (4, 1), (5, 2), (6, 3), (7, 4), (8, 5), (9, 6), (10, 7), (11, 8)] [[], [], [1], [0, 1, 2], [], [], [5], [0, 1, 2, 3, 4, 5, 6], [0, 1, 2, 3, 4, 5, 6, 7], [0, 1, 2, 3, 4, 5, 6, 7, 8]] (rel [row 0 0 #[] 68,
   is (.pointer (some ⟨(s1 0), 0, none⟩)),
   is (.slice (some ⟨bp, oP, none⟩) (3) (cp)),
   ab fun v W => RowV 68 8 W1.heap.size 3 (paCells3 ps) v W,
   row 4 0 #[] 70,
   is (.pointer (some ⟨(s1 0), 1, none⟩)),
   is (.slice (some ⟨bq, oq, none⟩) (2) (cq)),
   ab fun v W => RowV 70 4 W1.heap.size 2 (fuCells2 qs) v W,
   ab fun v W => StoO W1.heap.size ps qs v W])
  ⟨row_k, is_k, is_k, ab_k fun v W W' hb h => h.below hb, row_k, is_k, is_k, ab_k fun v W W' hb h => h.below hb, ab_k fun v W W' hb h => h.below hb, trivial⟩
  ⟨fun f s W c d i j k a => opr rfl rfl (by simp [go_sem]),
  fun f s W c d i j k a => opv rfl rfl (by simp [go_sem, a.e 1 k1_1]) rfl,
  fun f s W c d i j k a => opv rfl rfl (by simp [go_sem, a.e 4 (d 1 rfl), cb br1_0 c 0]) rfl,
  fun f s W c d i j k a => by have l := below_trans fB1 c; obtain ⟨v_, W_, r_, b_, i_⟩ := cloneP3 30 W1.heap.size W (s 0) bp oP cp ps (hP.below l) c.size; exact opDo_value rfl rfl (run_appendOp (a.v 3 (d 0 rfl).1) (a.v 5 (d 2 rfl)) r_) b_ i_,
  fun f s W c d i j k a => opr rfl rfl (by simp [go_sem]),
  fun f s W c d i j k a => opv rfl rfl (by simp [go_sem, a.e 1 k1_1]) rfl,
  fun f s W c d i j k a => opv rfl rfl (by simp [go_sem, a.e 8 (d 5 rfl), cb br1_0 c 1]) rfl,
  fun f s W c d i j k a => by have l := below_trans fB1 c; obtain ⟨v_, W_, r_, b_, i_⟩ := cloneF2 31 W1.heap.size W (s 4) bq oq cq qs (hQ.below l) c.size; exact opDo_value rfl rfl (run_appendOp (a.v 7 (d 4 rfl).1) (a.v 9 (d 6 rfl)) r_) b_ i_,
  fun f s W c d i j k a => by obtain ⟨g16', c17', d3, q18'⟩ := (d 3 rfl); obtain ⟨g19', c20', d7, q21'⟩ := (d 7 rfl); exact opv (v := (.agg #[.slice (some ⟨g16', 0, none⟩) (3) (c17'), .slice (some ⟨g19', 0, none⟩) (2) (c20')])) rfl rfl (by simp [go_sem, a.e 6 d3, a.e 10 d7]) ⟨_, _, _, _, rfl, q18', q21'⟩, trivial⟩ ?_
 intro f2 s2 W2 hB2 g2 hg2
 have fB2 := hB2.f fB1
 have z2 := hB2.below.size
 have b2_0 := hB2.b br1_0
 have b2_1 := hB2.b br1_1
 obtain ⟨r2_0, br2_0⟩ := hB2.is 0
 have lr2_0 := hB2.lr 0 br2_0
 obtain ⟨r2_4, br2_4⟩ := hB2.is 4
 have lr2_4 := hB2.lr 4 br2_4
 obtain ⟨g22', c24', g23', c25', r2_8, q26', q27'⟩ := hB2.is 8
 have ne2_0_4 := hB2.nb 0 4
 have k2_2 := kt hg2 2 k1_2
 have k2_11 := kt hg2 11 r2_8
 obtain ⟨W3, hW3⟩ : ∃ W', W' = W2.setRow (s1 1) #[.slice (some ⟨g22', 0, none⟩) (3) (c24'), .slice (some ⟨g23', 0, none⟩) (2) (c25')] := ⟨_, rfl⟩
 refine tail_skip (o := _) rfl ⟨rfl, rfl⟩ (run_seg hW3 (fr_ev k2_2) (fr_ev k2_11) b2_1 rfl rfl rfl rfl) ?_
 obtain ⟨fB3, nb3, ot3, z3⟩ := seg_facts hW3 fB2 b2_1 (by omega)
 clear hW3
 have b3_0 := ot3 _ _ (by omega) b2_0
 have b3_2 := ot3 _ _ (by omega) br2_0
 have b3_3 := ot3 _ _ (by omega) br2_4
 have q28' := q26'.other ot3 (ownR_ne q26' b2_1) z3
 have q29' := q27'.other ot3 (ownR_ne q27' b2_1) z3
 refine wpOps_end ?_
 refine hK2 _ _ ?_
 refine wp_ret ?_
 refine leave_gen (v := .agg #[.slice (some ⟨g22', 0, none⟩) (3) (c24'), .slice (some ⟨g23', 0, none⟩) (2) (c25')]) (.inr rfl) (by simp [results, Try.results9, go_sem, frv 12 k2_2, cl nb3 0, cl nb3 1]) ?_
 exact ⟨_, rfl, ⟨_, _, _, _, rfl, q28'.low z1, q29'.low z1⟩, fB3⟩
set_option maxRecDepth 100000 in
set_option maxHeartbeats 16000000 in
theorem pubStore_any (fv lw tt mm dd pc ee hg uu pr : Nat → Int) (w : World) (gfv : ∀ k, 0 ≤ fv k ∧ fv k ≤ 255) (hlw0 : 100 + fv 1 = lw 0) (htt0 : fv 2 % 60 = tt 0) (hmm0 : fv 3 % 90 = mm 0) (hdd0 : fv 2 % 20 = dd 0) (hlw1 : 100 + fv 5 = lw 1) (htt1 : fv 6 % 60 = tt 1) (hmm1 : fv 7 % 90 = mm 1) (hdd1 : fv 6 % 20 = dd 1) (hlw2 : 100 + fv 9 = lw 2) (htt2 : fv 10 % 60 = tt 2) (hmm2 : fv 11 % 90 = mm 2) (hdd2 : fv 10 % 20 = dd 2) (hpc0 : 2000 + 20 * fv 12 = pc 0) (hhg0 : 1000 + 8 * fv 13 = hg 0) (hpr0 : pc 0 * fv 14 = pr 0) (gpr0 : 0 ≤ pr 0 ∧ pr 0 ≤ 2000000) (hee0 : pc 0 * fv 14 / 400 = ee 0) (gee0 : 0 ≤ ee 0 ∧ ee 0 ≤ 5000) (huu0 : fv 14 % 200 = uu 0) (hpc1 : 2000 + 20 * fv 15 = pc 1) (hhg1 : 1000 + 8 * fv 16 = hg 1) (hpr1 : pc 1 * fv 17 = pr 1) (gpr1 : 0 ≤ pr 1 ∧ pr 1 ≤ 2000000) (hee1 : pc 1 * fv 17 / 400 = ee 1) (gee1 : 0 ≤ ee 1 ∧ ee 1 ≤ 5000) (huu1 : fv 17 % 200 = uu 1) :
  Calls Try.prog 6 #[.agg #[.int .u8 ((fv 0)), .int .u8 ((fv 1)), .int .u8 ((fv 2)), .int .u8 ((fv 3)), .int .u8 ((fv 4)), .int .u8 ((fv 5)), .int .u8 ((fv 6)), .int .u8 ((fv 7)), .int .u8 ((fv 8)), .int .u8 ((fv 9)), .int .u8 ((fv 10)), .int .u8 ((fv 11)), .int .u8 ((fv 12)), .int .u8 ((fv 13)), .int .u8 ((fv 14)), .int .u8 ((fv 15)), .int .u8 ((fv 16)), .int .u8 ((fv 17)), .int .u8 ((fv 18)), .int .u8 ((fv 19)), .int .u8 ((fv 20)), .int .u8 ((fv 21)), .int .u8 ((fv 22)), .int .u8 ((fv 23)), .int .u8 ((fv 24))]] w (StoOP (paF fv lw tt mm dd) (fuF pc ee hg uu) w) := by
 have gq0_ := gfv 0
 have gq1_ := gfv 1
 have gq2_ := gfv 2
 have gq3_ := gfv 3
 have gq4_ := gfv 4
 have gq5_ := gfv 5
 have gq6_ := gfv 6
 have gq7_ := gfv 7
 have gq8_ := gfv 8
 have gq9_ := gfv 9
 have gq10_ := gfv 10
 have gq11_ := gfv 11
 have gq12_ := gfv 12
 have gq13_ := gfv 13
 have gq14_ := gfv 14
 have gq15_ := gfv 15
 have gq16_ := gfv 16
 have gq17_ := gfv 17
 have gl0 : 100 ≤ lw 0 ∧ lw 0 ≤ 355 := by omega
 have gt0 : 0 ≤ tt 0 ∧ tt 0 ≤ 59 := by omega
 have gm0 : 0 ≤ mm 0 ∧ mm 0 ≤ 89 := by omega
 have gd0 : 0 ≤ dd 0 ∧ dd 0 ≤ 19 := by omega
 have gl1 : 100 ≤ lw 1 ∧ lw 1 ≤ 355 := by omega
 have gt1 : 0 ≤ tt 1 ∧ tt 1 ≤ 59 := by omega
 have gm1 : 0 ≤ mm 1 ∧ mm 1 ≤ 89 := by omega
 have gd1 : 0 ≤ dd 1 ∧ dd 1 ≤ 19 := by omega
 have gl2 : 100 ≤ lw 2 ∧ lw 2 ≤ 355 := by omega
 have gt2 : 0 ≤ tt 2 ∧ tt 2 ≤ 59 := by omega
 have gm2 : 0 ≤ mm 2 ∧ mm 2 ≤ 89 := by omega
 have gd2 : 0 ≤ dd 2 ∧ dd 2 ≤ 19 := by omega
 have gp0 : 2000 ≤ pc 0 ∧ pc 0 ≤ 7100 := by omega
 have gh0 : 1000 ≤ hg 0 ∧ hg 0 ≤ 3040 := by omega
 have gu0 : 0 ≤ uu 0 ∧ uu 0 ≤ 199 := by omega
 have gp1 : 2000 ≤ pc 1 ∧ pc 1 ≤ 7100 := by omega
 have gh1 : 1000 ≤ hg 1 ∧ hg 1 ≤ 3040 := by omega
 have gu1 : 0 ≤ uu 1 ∧ uu 1 ≤ 199 := by omega
 refine calls_fr Try.func6 Try.ntmps6 rfl rfl fun g hg => ?_
 have k0 : g 0 = .agg #[.int .u8 ((fv 0)), .int .u8 ((fv 1)), .int .u8 ((fv 2)), .int .u8 ((fv 3)), .int .u8 ((fv 4)), .int .u8 ((fv 5)), .int .u8 ((fv 6)), .int .u8 ((fv 7)), .int .u8 ((fv 8)), .int .u8 ((fv 9)), .int .u8 ((fv 10)), .int .u8 ((fv 11)), .int .u8 ((fv 12)), .int .u8 ((fv 13)), .int .u8 ((fv 14)), .int .u8 ((fv 15)), .int .u8 ((fv 16)), .int .u8 ((fv 17)), .int .u8 ((fv 18)), .int .u8 ((fv 19)), .int .u8 ((fv 20)), .int .u8 ((fv 21)), .int .u8 ((fv 22)), .int .u8 ((fv 23)), .int .u8 ((fv 24))] := hg 0
 clear hg
 have fB0 : Below w.heap.size w w := Below.refl _ _
 refine wp_seq_k fun K1 hK1 => ?_
 refine region_dk 2 [(1, 0), (2, 1)] [[], []] (rel [bx 0 #[.int .u8 ((fv 0)), .int .u8 ((fv 1)), .int .u8 ((fv 2)), .int .u8 ((fv 3)), .int .u8 ((fv 4)), .int .u8 ((fv 5)), .int .u8 ((fv 6)), .int .u8 ((fv 7)), .int .u8 ((fv 8)), .int .u8 ((fv 9)), .int .u8 ((fv 10)), .int .u8 ((fv 11)), .int .u8 ((fv 12)), .int .u8 ((fv 13)), .int .u8 ((fv 14)), .int .u8 ((fv 15)), .int .u8 ((fv 16)), .int .u8 ((fv 17)), .int .u8 ((fv 18)), .int .u8 ((fv 19)), .int .u8 ((fv 20)), .int .u8 ((fv 21)), .int .u8 ((fv 22)), .int .u8 ((fv 23)), .int .u8 ((fv 24))] 28,
   bx 1 #[.slice (none) (0) (0), .slice (none) (0) (0)] 33])
  ⟨bx_k, bx_k, trivial⟩
  ⟨fun f s W c d h i j a => opb rfl rfl (by simp [go_sem, a.e 0 k0]),
  fun f s W c d h i j a => opb rfl rfl (by simp [go_sem]), trivial⟩ ?_
 intro f1 s1 W1 hB1 g1 hg1
 have fB1 := hB1.f fB0
 have z1 := hB1.below.size
 obtain ⟨r1_0, br1_0⟩ := hB1.is 0
 have lr1_0 := hB1.lr 0 br1_0
 obtain ⟨r1_1, br1_1⟩ := hB1.is 1
 have lr1_1 := hB1.lr 1 br1_1
 have ne1_0_1 := hB1.nb 0 1
 refine hK1 _ _ ?_
 have k1_1 := kt hg1 1 r1_0
 have k1_2 := kt hg1 2 r1_1
 refine wp_seq_k fun K2 hK2 => ?_
 refine region_dk 2 [(11, 0), (3, 1)] [[], [], [0, 1]] (rel [is (.agg #[.slice (none) (0) (0), .slice (none) (0) (0)]),
   bx 1 #[.slice (none) (0) (0), .slice (none) (0) (0)] 33])
  ⟨is_k, bx_k, trivial⟩
  ⟨fun f s W c d h i j a => opv rfl rfl (by simp [go_sem]) rfl,
  fun f s W c d h i j a => opb rfl rfl (by simp [go_sem]), trivial⟩ ?_
 intro f2 s2 W2 hB2 g2 hg2
 have fB2 := hB2.f fB1
 have z2 := hB2.below.size
 have b2_0 := hB2.b br1_0
 have b2_1 := hB2.b br1_1
 obtain ⟨r2_1, br2_1⟩ := hB2.is 1
 have lr2_1 := hB2.lr 1 br2_1
 have k2_1 := kt hg2 1 k1_1
 have k2_2 := kt hg2 2 k1_2
 have k2_11 := kt hg2 11 (hB2.is 0)
 have k2_3 := kt hg2 3 r2_1
 obtain ⟨W3, hW3⟩ : ∃ W', W' = W2.setRow (s2 1) #[.slice (none) (0) (0), .slice (none) (0) (0)] := ⟨_, rfl⟩
 refine tail_skip (o := _) rfl ⟨rfl, rfl⟩ (run_seg hW3 (fr_ev k2_3) (fr_ev k2_11) br2_1 rfl rfl rfl rfl) ?_
 obtain ⟨fB3, nb3, ot3, z3⟩ := seg_facts hW3 fB2 br2_1 (by omega)
 clear hW3
 have b3_0 := ot3 _ _ (by first | assumption | exact Ne.symm (by assumption) | omega) b2_0
 have b3_1 := ot3 _ _ (by first | assumption | exact Ne.symm (by assumption) | omega) b2_1
 refine wpOps_end ?_
 refine hK2 _ _ ?_
 refine wp_seq_k fun K3 hK3 => ?_
 refine wp_seq_k fun K4 hK4 => ?_
 refine region_dk 1 [(4, 0)] [[]] (rel [is (.int .i64 0)])
  ⟨is_k, trivial⟩
  ⟨fun f s W c d h i j a => opv rfl rfl (by simp [go_sem]) rfl, trivial⟩ ?_
 intro f4 s4 W4 hB4 g4 hg4
 have fB4 := hB4.f fB3
 have z4 := hB4.below.size
 have b4_0 := hB4.b b3_0
 have b4_1 := hB4.b b3_1
 have b4_2 := hB4.b nb3
 refine hK4 _ _ ?_
 have k4_1 := kt hg4 1 k2_1
 have k4_2 := kt hg4 2 k2_2
 have k4_3 := kt hg4 3 k2_3
 have k4_4 := kt hg4 4 (hB4.is 0)
 refine wp_block ?_
 refine wp_loop_rounds 4 ?_
 rw [rounds_succ]
 refine wp_seq_k fun K5 hK5 => ?_
 refine wp_seq_k fun K6 hK6 => ?_
 refine region_dk 2 [(12, 0), (13, 1)] [[], [0]] (rel [is (.int .i64 0),
   is (.bool true)])
  ⟨is_k, is_k, trivial⟩
  ⟨fun f s W c d h i j a => opv rfl rfl (by simp [go_sem, a.e 4 k4_4]) rfl,
  fun f s W c d h i j a => opv rfl rfl (by simp [go_sem, a.e 12 (d 0 rfl)]) rfl, trivial⟩ ?_
 intro f5 s5 W5 hB5 g5 hg5
 have fB5 := hB5.f fB4
 have z5 := hB5.below.size
 have b5_0 := hB5.b b4_0
 have b5_1 := hB5.b b4_1
 have b5_2 := hB5.b b4_2
 refine hK6 _ _ ?_
 have k5_1 := kt hg5 1 k4_1
 have k5_2 := kt hg5 2 k4_2
 have k5_3 := kt hg5 3 k4_3
 have k5_4 := kt hg5 4 k4_4
 have k5_13 := kt hg5 13 (hB5.is 1)
 refine wp_cond_true ((fr_eval rfl).trans k5_13) ?_
 refine wp_skip ?_
 refine hK5 _ _ ?_
 refine wp_seq_k fun K8 hK8 => ?_
 refine wp_block ?_
 refine wp_seq_k fun K9 hK9 => ?_
 refine region_dk 5 [(16, 0), (17, 1), (18, 2), (19, 3), (5, 4)] [[], [], [0, 1], [0, 1, 2], [], [0, 1, 2, 3, 4]] (rel [is (.int .i64 0),
   is (.pointer (some ⟨(s1 0), 0, none⟩)),
   is (.pointer (some ⟨(s1 0), 0, none⟩)),
   is (.agg #[.int .u8 ((fv 0)), .int .u8 ((fv 1)), .int .u8 ((fv 2)), .int .u8 ((fv 3))]),
   bx 4 #[.int .u8 0, .int .u8 0, .int .u8 0, .int .u8 0] 22])
  ⟨is_k, is_k, is_k, is_k, bx_k, trivial⟩
  ⟨fun f s W c d h i j a => opv rfl rfl (by simp [go_sem, a.e 4 k5_4]) rfl,
  fun f s W c d h i j a => opv rfl rfl (by simp [go_sem, a.e 1 k5_1]) rfl,
  fun f s W c d h i j a => opv rfl rfl (by simp [go_sem, a.e 17 (d 1 rfl), a.e 16 (d 0 rfl)]) rfl,
  fun f s W c d h i j a => opv rfl rfl (by simp [go_sem, a.e 18 (d 2 rfl), cb b5_0 c 0, cb b5_0 c 1, cb b5_0 c 2, cb b5_0 c 3]) rfl,
  fun f s W c d h i j a => opb rfl rfl (by simp [go_sem]), trivial⟩ ?_
 intro f6 s6 W6 hB6 g6 hg6
 have fB6 := hB6.f fB5
 have z6 := hB6.below.size
 have b6_0 := hB6.b b5_0
 have b6_1 := hB6.b b5_1
 have b6_2 := hB6.b b5_2
 obtain ⟨r6_4, br6_4⟩ := hB6.is 4
 have lr6_4 := hB6.lr 4 br6_4
 have k6_1 := kt hg6 1 k5_1
 have k6_2 := kt hg6 2 k5_2
 have k6_3 := kt hg6 3 k5_3
 have k6_4 := kt hg6 4 k5_4
 have k6_13 := kt hg6 13 k5_13
 have k6_19 := kt hg6 19 (hB6.is 3)
 have k6_5 := kt hg6 5 r6_4
 obtain ⟨W7, hW7⟩ : ∃ W', W' = W6.setRow (s6 4) #[.int .u8 ((fv 0)), .int .u8 ((fv 1)), .int .u8 ((fv 2)), .int .u8 ((fv 3))] := ⟨_, rfl⟩
 refine tail_skip (o := _) rfl ⟨rfl, rfl⟩ (run_seg hW7 (fr_ev k6_5) (fr_ev k6_19) br6_4 rfl rfl rfl rfl) ?_
 obtain ⟨fB7, nb7, ot7, z7⟩ := seg_facts hW7 fB6 br6_4 (by omega)
 clear hW7
 have b7_0 := ot7 _ _ (by first | assumption | exact Ne.symm (by assumption) | omega) b6_0
 have b7_1 := ot7 _ _ (by first | assumption | exact Ne.symm (by assumption) | omega) b6_1
 have b7_2 := ot7 _ _ (by first | assumption | exact Ne.symm (by assumption) | omega) b6_2
 refine wpOps_end ?_
 refine hK9 _ _ ?_
 refine wp_seq_k fun K10 hK10 => ?_
 refine region_dk 5 [(20, 0), (21, 1), (22, 2), (23, 3), (6, 4)] [[], [0], [0, 1], [0, 1, 2], [0, 1, 2, 3]] (rel [is (.pointer (some ⟨(s6 4), 1, none⟩)),
   is (.int .u8 ((fv 1))),
   is (.int .i64 ((fv 1))),
   is (.int .i64 (100 + (fv 1))),
   is (.int .i64 (100 + (fv 1)))])
  ⟨is_k, is_k, is_k, is_k, is_k, trivial⟩
  ⟨fun f s W c d h i j a => opv rfl rfl (by simp [go_sem, a.e 5 k6_5]) rfl,
  fun f s W c d h i j a => opv rfl rfl (by simp [go_sem, a.e 20 (d 0 rfl), cb nb7 c 1]) rfl,
  fun f s W c d h i j a => by have gf_ := gfv 1; have cv_ := IntWalk.i64_in (fv 1) (by omega); exact opv rfl rfl (by simp [go_sem, a.e 21 (d 1 rfl), cv_]) rfl,
  fun f s W c d h i j a => opv rfl rfl (by simp [go_sem, a.e 22 (d 2 rfl), IntWalk.i64_in (100 + (fv 1)) (by omega)]) rfl,
  fun f s W c d h i j a => opv rfl rfl (by simp [go_sem, a.e 23 (d 3 rfl)]) rfl, trivial⟩ ?_
 intro f8 s8 W8 hB8 g8 hg8
 have fB8 := hB8.f fB7
 have z8 := hB8.below.size
 have b8_0 := hB8.b b7_0
 have b8_1 := hB8.b b7_1
 have b8_2 := hB8.b b7_2
 have b8_3 := hB8.b nb7
 refine hK10 _ _ ?_
 have k8_1 := kt hg8 1 k6_1
 have k8_2 := kt hg8 2 k6_2
 have k8_3 := kt hg8 3 k6_3
 have k8_4 := kt hg8 4 k6_4
 have k8_13 := kt hg8 13 k6_13
 have k8_19 := kt hg8 19 k6_19
 have k8_5 := kt hg8 5 k6_5
 have k8_6 := kt hg8 6 (hB8.is 4)
 have nk0_6 : g8 6 = .int .i64 (lw 0) := k8_6.trans (by rw [hlw0])
 refine region_dk 41 [(24, 0), (25, 1), (26, 2), (27, 3), (28, 4), (29, 5), (30, 6), (31, 7), (32, 8), (33, 9), (34, 10), (35, 11), (36, 12), (37, 13), (38, 14), (39, 15), (40, 16), (41, 17), (42, 18), (43, 19), (44, 20), (45, 21), (46, 22), (47, 23), (48, 24), (49, 25), (50, 26), (51, 27), (52, 28), (53, 29), (54, 30), (55, 31), (56, 32), (57, 33), (58, 34), (59, 35), (60, 36), (61, 37), (62, 38), (63, 39), (64, 40), (65, 41), (66, 42)] [[], [0], [], [2], [2, 3], [], [5], [5, 6], [5, 6, 7], [], [], [], [11], [11, 12], [11, 12, 13], [10, 11, 12, 13, 14], [9, 10, 11, 12, 13, 14, 15], [], [17], [17, 18], [17, 18, 19], [], [21], [21, 22], [21, 22, 23], [], [25], [25, 26], [25, 26, 27], [21, 22, 23, 24, 25, 26, 27, 28], [9, 10, 11, 12, 13, 14, 15, 16, 17, 18, 19, 20, 21, 22, 23, 24, 25, 26, 27, 28, 29], [], [31], [31, 32], [31, 32, 33], [], [35], [35, 36], [35, 36, 37], [2, 3, 4, 5, 6, 7, 8, 9, 10, 11, 12, 13, 14, 15, 16, 17, 18, 19, 20, 21, 22, 23, 24, 25, 26, 27, 28, 29, 30, 31, 32, 33, 34, 35, 36, 37, 38], [2, 3, 4, 5, 6, 7, 8, 9, 10, 11, 12, 13, 14, 15, 16, 17, 18, 19, 20, 21, 22, 23, 24, 25, 26, 27, 28, 29, 30, 31, 32, 33, 34, 35, 36, 37, 38, 39], [0, 1, 2, 3, 4, 5, 6, 7, 8, 9, 10, 11, 12, 13, 14, 15, 16, 17, 18, 19, 20, 21, 22, 23, 24, 25, 26, 27, 28, 29, 30, 31, 32, 33, 34, 35, 36, 37, 38, 39, 40], [0, 1, 2, 3, 4, 5, 6, 7, 8, 9, 10, 11, 12, 13, 14, 15, 16, 17, 18, 19, 20, 21, 22, 23, 24, 25, 26, 27, 28, 29, 30, 31, 32, 33, 34, 35, 36, 37, 38, 39, 40, 41], [0, 1, 2, 3, 4, 5, 6, 7, 8, 9, 10, 11, 12, 13, 14, 15, 16, 17, 18, 19, 20, 21, 22, 23, 24, 25, 26, 27, 28, 29, 30, 31, 32, 33, 34, 35, 36, 37, 38, 39, 40, 41, 42]] (rel [is (.pointer (some ⟨(s2 1), 0, none⟩)),
   is (.slice (none) (0) (0)),
   is (.int .i64 0),
   is (.int .i64 0),
   is (.int .i64 1),
   is (.pointer (some ⟨(s6 4), 0, none⟩)),
   is (.int .u8 ((fv 0))),
   is (.int .i64 ((fv 0))),
   is (.int .i64 (80 + (fv 0))),
   is (.int .i64 ((lw 0))),
   is (.int .i64 ((lw 0))),
   is (.pointer (some ⟨(s6 4), 2, none⟩)),
   is (.int .u8 ((fv 2))),
   is (.int .i64 ((fv 2))),
   is (.int .i64 ((tt 0))),
   is (.int .i64 ((lw 0) + (tt 0))),
   is (.agg #[.int .i64 ((lw 0)), .int .i64 ((lw 0) + (tt 0))]),
   is (.pointer (some ⟨(s6 4), 3, none⟩)),
   is (.int .u8 ((fv 3))),
   is (.int .i64 ((fv 3))),
   is (.int .i64 ((mm 0))),
   is (.pointer (some ⟨(s6 4), 3, none⟩)),
   is (.int .u8 ((fv 3))),
   is (.int .i64 ((fv 3))),
   is (.int .i64 ((mm 0))),
   is (.pointer (some ⟨(s6 4), 2, none⟩)),
   is (.int .u8 ((fv 2))),
   is (.int .i64 ((fv 2))),
   is (.int .i64 ((dd 0))),
   is (.int .i64 ((mm 0) + (dd 0))),
   is (.agg #[.int .i64 ((mm 0)), .int .i64 ((mm 0) + (dd 0))]),
   is (.pointer (some ⟨(s6 4), 0, none⟩)),
   is (.int .u8 ((fv 0))),
   is (.int .i64 ((fv 0))),
   is (.int .i64 (2000 * (fv 0))),
   is (.pointer (some ⟨(s6 4), 1, none⟩)),
   is (.int .u8 ((fv 1))),
   is (.int .i64 ((fv 1))),
   is (.int .i64 (5 * (fv 1))),
   is (.agg #[.int .i64 1, .int .i64 (80 + (fv 0)), .int .i64 ((lw 0)), .int .i64 ((lw 0) + (tt 0)), .int .i64 ((mm 0)), .int .i64 ((mm 0) + (dd 0)), .int .i64 (2000 * (fv 0)), .int .i64 (5 * (fv 1))]),
   row 40 1 #[.int .i64 1, .int .i64 (80 + (fv 0)), .int .i64 ((lw 0)), .int .i64 ((lw 0) + (tt 0)), .int .i64 ((mm 0)), .int .i64 ((mm 0) + (dd 0)), .int .i64 (2000 * (fv 0)), .int .i64 (5 * (fv 1))] 68])
  ⟨is_k, is_k, is_k, is_k, is_k, is_k, is_k, is_k, is_k, is_k, is_k, is_k, is_k, is_k, is_k, is_k, is_k, is_k, is_k, is_k, is_k, is_k, is_k, is_k, is_k, is_k, is_k, is_k, is_k, is_k, is_k, is_k, is_k, is_k, is_k, is_k, is_k, is_k, is_k, is_k, row_k, trivial⟩
  ⟨fun f s W c d h i j a => opv rfl rfl (by simp [go_sem, a.e 3 k8_3]) rfl,
  fun f s W c d h i j a => opv rfl rfl (by simp [go_sem, a.e 24 (d 0 rfl), cb b8_2 c 0]) rfl,
  fun f s W c d h i j a => opv rfl rfl (by simp [go_sem, a.e 4 k8_4]) rfl,
  fun f s W c d h i j a => by have qw_ := IntWalk.i64_in (0) (by decide); exact opv rfl rfl (by simp [go_sem, a.e 26 (d 2 rfl), qw_]) rfl,
  fun f s W c d h i j a => opv rfl rfl (by simp [go_sem, a.e 27 (d 3 rfl), IntWalk.i64_in (1) (by omega)]) rfl,
  fun f s W c d h i j a => opv rfl rfl (by simp [go_sem, a.e 5 k8_5]) rfl,
  fun f s W c d h i j a => opv rfl rfl (by simp [go_sem, a.e 29 (d 5 rfl), cb b8_3 c 0]) rfl,
  fun f s W c d h i j a => by have gf_ := gfv 0; have cv_ := IntWalk.i64_in (fv 0) (by omega); exact opv rfl rfl (by simp [go_sem, a.e 30 (d 6 rfl), cv_]) rfl,
  fun f s W c d h i j a => opv rfl rfl (by simp [go_sem, a.e 31 (d 7 rfl), IntWalk.i64_in (80 + (fv 0)) (by omega)]) rfl,
  fun f s W c d h i j a => opv rfl rfl (by simp [go_sem, a.e 6 nk0_6]) rfl,
  fun f s W c d h i j a => opv rfl rfl (by simp [go_sem, a.e 6 nk0_6]) rfl,
  fun f s W c d h i j a => opv rfl rfl (by simp [go_sem, a.e 5 k8_5]) rfl,
  fun f s W c d h i j a => opv rfl rfl (by simp [go_sem, a.e 35 (d 11 rfl), cb b8_3 c 2]) rfl,
  fun f s W c d h i j a => by have gf_ := gfv 2; have cv_ := IntWalk.i64_in (fv 2) (by omega); exact opv rfl rfl (by simp [go_sem, a.e 36 (d 12 rfl), cv_]) rfl,
  fun f s W c d h i j a => by have gf_ := gfv 2; have qu_ : ((fv 2)).tmod 60 = tt 0 := (Int.tmod_eq_emod_of_nonneg (by omega)).trans htt0; have qw_ := IntWalk.i64_in (tt 0) (by omega); exact opv rfl rfl (by simp [go_sem, a.e 37 (d 13 rfl), qu_, qw_]) rfl,
  fun f s W c d h i j a => opv rfl rfl (by simp [go_sem, a.e 34 (d 10 rfl), a.e 38 (d 14 rfl), IntWalk.i64_in ((lw 0) + (tt 0)) (by omega)]) rfl,
  fun f s W c d h i j a => opc rfl rfl (by simp [go_sem, a.e 33 (d 9 rfl), a.e 39 (d 15 rfl)]) (pubSpan_any ((lw 0)) ((lw 0) + (tt 0)) W),
  fun f s W c d h i j a => opv rfl rfl (by simp [go_sem, a.e 5 k8_5]) rfl,
  fun f s W c d h i j a => opv rfl rfl (by simp [go_sem, a.e 41 (d 17 rfl), cb b8_3 c 3]) rfl,
  fun f s W c d h i j a => by have gf_ := gfv 3; have cv_ := IntWalk.i64_in (fv 3) (by omega); exact opv rfl rfl (by simp [go_sem, a.e 42 (d 18 rfl), cv_]) rfl,
  fun f s W c d h i j a => by have gf_ := gfv 3; have qu_ : ((fv 3)).tmod 90 = mm 0 := (Int.tmod_eq_emod_of_nonneg (by omega)).trans hmm0; have qw_ := IntWalk.i64_in (mm 0) (by omega); exact opv rfl rfl (by simp [go_sem, a.e 43 (d 19 rfl), qu_, qw_]) rfl,
  fun f s W c d h i j a => opv rfl rfl (by simp [go_sem, a.e 5 k8_5]) rfl,
  fun f s W c d h i j a => opv rfl rfl (by simp [go_sem, a.e 45 (d 21 rfl), cb b8_3 c 3]) rfl,
  fun f s W c d h i j a => by have gf_ := gfv 3; have cv_ := IntWalk.i64_in (fv 3) (by omega); exact opv rfl rfl (by simp [go_sem, a.e 46 (d 22 rfl), cv_]) rfl,
  fun f s W c d h i j a => by have gf_ := gfv 3; have qu_ : ((fv 3)).tmod 90 = mm 0 := (Int.tmod_eq_emod_of_nonneg (by omega)).trans hmm0; have qw_ := IntWalk.i64_in (mm 0) (by omega); exact opv rfl rfl (by simp [go_sem, a.e 47 (d 23 rfl), qu_, qw_]) rfl,
  fun f s W c d h i j a => opv rfl rfl (by simp [go_sem, a.e 5 k8_5]) rfl,
  fun f s W c d h i j a => opv rfl rfl (by simp [go_sem, a.e 49 (d 25 rfl), cb b8_3 c 2]) rfl,
  fun f s W c d h i j a => by have gf_ := gfv 2; have cv_ := IntWalk.i64_in (fv 2) (by omega); exact opv rfl rfl (by simp [go_sem, a.e 50 (d 26 rfl), cv_]) rfl,
  fun f s W c d h i j a => by have gf_ := gfv 2; have qu_ : ((fv 2)).tmod 20 = dd 0 := (Int.tmod_eq_emod_of_nonneg (by omega)).trans hdd0; have qw_ := IntWalk.i64_in (dd 0) (by omega); exact opv rfl rfl (by simp [go_sem, a.e 51 (d 27 rfl), qu_, qw_]) rfl,
  fun f s W c d h i j a => opv rfl rfl (by simp [go_sem, a.e 48 (d 24 rfl), a.e 52 (d 28 rfl), IntWalk.i64_in ((mm 0) + (dd 0)) (by omega)]) rfl,
  fun f s W c d h i j a => opc rfl rfl (by simp [go_sem, a.e 44 (d 20 rfl), a.e 53 (d 29 rfl)]) (pubSpan_any ((mm 0)) ((mm 0) + (dd 0)) W),
  fun f s W c d h i j a => opv rfl rfl (by simp [go_sem, a.e 5 k8_5]) rfl,
  fun f s W c d h i j a => opv rfl rfl (by simp [go_sem, a.e 55 (d 31 rfl), cb b8_3 c 0]) rfl,
  fun f s W c d h i j a => by have gf_ := gfv 0; have cv_ := IntWalk.i64_in (fv 0) (by omega); exact opv rfl rfl (by simp [go_sem, a.e 56 (d 32 rfl), cv_]) rfl,
  fun f s W c d h i j a => opv rfl rfl (by simp [go_sem, a.e 57 (d 33 rfl), IntWalk.i64_in (2000 * (fv 0)) (by omega)]) rfl,
  fun f s W c d h i j a => opv rfl rfl (by simp [go_sem, a.e 5 k8_5]) rfl,
  fun f s W c d h i j a => opv rfl rfl (by simp [go_sem, a.e 59 (d 35 rfl), cb b8_3 c 1]) rfl,
  fun f s W c d h i j a => by have gf_ := gfv 1; have cv_ := IntWalk.i64_in (fv 1) (by omega); exact opv rfl rfl (by simp [go_sem, a.e 60 (d 36 rfl), cv_]) rfl,
  fun f s W c d h i j a => opv rfl rfl (by simp [go_sem, a.e 61 (d 37 rfl), IntWalk.i64_in (5 * (fv 1)) (by omega)]) rfl,
  fun f s W c d h i j a => opv rfl rfl (by simp [go_sem, a.e 28 (d 4 rfl), a.e 32 (d 8 rfl), a.e 40 (d 16 rfl), a.e 54 (d 30 rfl), a.e 58 (d 34 rfl), a.e 62 (d 38 rfl)]) rfl,
  fun f s W c d h i j a => opr rfl rfl (by simp [go_sem, a.e 63 (d 39 rfl)]), trivial⟩ ?_
 intro f9 s9 W9 hB9 g9 hg9
 have fB9 := hB9.f fB8
 have z9 := hB9.below.size
 have b9_0 := hB9.b b8_0
 have b9_1 := hB9.b b8_1
 have b9_2 := hB9.b b8_2
 have b9_3 := hB9.b b8_3
 obtain ⟨r9_40, br9_40⟩ := hB9.is 40
 have lr9_40 := hB9.lr 40 br9_40
 have k9_1 := kt hg9 1 k8_1
 have k9_2 := kt hg9 2 k8_2
 have k9_3 := kt hg9 3 k8_3
 have k9_4 := kt hg9 4 k8_4
 have k9_13 := kt hg9 13 k8_13
 have k9_19 := kt hg9 19 k8_19
 have k9_5 := kt hg9 5 k8_5
 have k9_6 := kt hg9 6 nk0_6
 have k9_25 := kt hg9 25 (hB9.is 1)
 have k9_64 := kt hg9 64 r9_40
 obtain ⟨ga10, ca10, W10, ra10, ow10, ot10, z10, gg10, fB10⟩ := growR_nil 30 30 68 8 64 _ (by kernel_rfl) Try.infoP rfl 1 (off := 0) (k := 1) (c' := 1) [.int .i64 1, .int .i64 (80 + (fv 0)), .int .i64 ((lw 0)), .int .i64 ((lw 0) + (tt 0)), .int .i64 ((mm 0)), .int .i64 ((mm 0) + (dd 0)), .int .i64 (2000 * (fv 0)), .int .i64 (5 * (fv 1))] fB9 rfl rfl rfl (cells_at br9_40) rfl
 refine tail_value2 (o := _) rfl rfl rfl (run_appendOp (fr_ev k9_25) (fr_ev k9_64) ra10) ?_
 have lo10 := ow10.lim
 have b10_0 := ot10 _ _ (by first | assumption | exact Ne.symm (by assumption) | omega) b9_0
 have b10_1 := ot10 _ _ (by first | assumption | exact Ne.symm (by assumption) | omega) b9_1
 have b10_2 := ot10 _ _ (by first | assumption | exact Ne.symm (by assumption) | omega) b9_2
 have b10_3 := ot10 _ _ (by first | assumption | exact Ne.symm (by assumption) | omega) b9_3
 generalize hg10 : upd g9 65 (.slice (some ⟨ga10, 0, none⟩) (1) (ca10)) = g10
 have k10_1 := ku hg10 1 k9_1
 have k10_2 := ku hg10 2 k9_2
 have k10_3 := ku hg10 3 k9_3
 have k10_4 := ku hg10 4 k9_4
 have k10_13 := ku hg10 13 k9_13
 have k10_19 := ku hg10 19 k9_19
 have k10_5 := ku hg10 5 k9_5
 have k10_6 := ku hg10 6 k9_6
 have k10_25 := ku hg10 25 k9_25
 have k10_64 := ku hg10 64 k9_64
 have k10_65 := kt hg10 65 (upd_same _ _ _)
 refine tail_value (o := _) rfl rfl rfl (v := .pointer (some ⟨(s2 1), 0, none⟩)) (by simp [go_sem, frv 109 k10_3]) ?_
 generalize hg11 : upd g10 66 (.pointer (some ⟨(s2 1), 0, none⟩)) = g11
 have k11_1 := ku hg11 1 k10_1
 have k11_2 := ku hg11 2 k10_2
 have k11_3 := ku hg11 3 k10_3
 have k11_4 := ku hg11 4 k10_4
 have k11_13 := ku hg11 13 k10_13
 have k11_19 := ku hg11 19 k10_19
 have k11_5 := ku hg11 5 k10_5
 have k11_6 := ku hg11 6 k10_6
 have k11_25 := ku hg11 25 k10_25
 have k11_64 := ku hg11 64 k10_64
 have k11_65 := ku hg11 65 k10_65
 have k11_66 := kt hg11 66 (upd_same _ _ _)
 obtain ⟨W12, hW12⟩ : ∃ W', W' = W10.setRow (s2 1) #[.slice (some ⟨ga10, 0, none⟩) (1) (ca10), .slice (none) (0) (0)] := ⟨_, rfl⟩
 refine tail_skip (o := _) rfl ⟨rfl, rfl⟩ (run_seg hW12 (fr_ev k11_66) (fr_ev k11_65) b10_2 rfl rfl rfl rfl) ?_
 obtain ⟨fB12, nb12, ot12, z12⟩ := seg_facts hW12 fB10 b10_2 (by omega)
 clear hW12
 have b12_0 := ot12 _ _ (by first | assumption | exact Ne.symm (by assumption) | omega) b10_0
 have b12_1 := ot12 _ _ (by first | assumption | exact Ne.symm (by assumption) | omega) b10_1
 have b12_3 := ot12 _ _ (by first | assumption | exact Ne.symm (by assumption) | omega) b10_3
 have q30' := ow10.other ot12 (ownR_ne ow10 b10_2) z12
 refine wpOps_end ?_
 refine inBlock_normal ?_
 refine hK8 _ _ ?_
 refine region_dk 3 [(14, 0), (15, 1), (4, 2)] [[], [0], [0, 1]] (rel [is (.int .i64 0),
   is (.int .i64 1),
   is (.int .i64 1)])
  ⟨is_k, is_k, is_k, trivial⟩
  ⟨fun f s W c d h i j a => opv rfl rfl (by simp [go_sem, a.e 4 ((i 2 4 rfl rfl).trans k11_4)]) rfl,
  fun f s W c d h i j a => opv rfl rfl (by simp [go_sem, a.e 14 (d 0 rfl), IntWalk.i64_in (1) (by omega)]) rfl,
  fun f s W c d h i j a => opv rfl rfl (by simp [go_sem, a.e 15 (d 1 rfl)]) rfl, trivial⟩ ?_
 intro f13 s13 W13 hB13 g13 hg13
 have fB13 := hB13.f fB12
 have z13 := hB13.below.size
 have b13_0 := hB13.b b12_0
 have b13_1 := hB13.b b12_1
 have b13_2 := hB13.b nb12
 have b13_3 := hB13.b b12_3
 have q31' := (q30'.below hB13.below)
 refine wpOps_end ?_
 have k13_1 := kt hg13 1 k11_1
 have k13_2 := kt hg13 2 k11_2
 have k13_3 := kt hg13 3 k11_3
 have k13_13 := kt hg13 13 k11_13
 have k13_19 := kt hg13 19 k11_19
 have k13_5 := kt hg13 5 k11_5
 have k13_6 := kt hg13 6 k11_6
 have k13_25 := kt hg13 25 k11_25
 have k13_64 := kt hg13 64 k11_64
 have k13_65 := kt hg13 65 k11_65
 have k13_66 := kt hg13 66 k11_66
 have k13_4 := kt hg13 4 (hB13.is 2)
 refine then_normal ?_
 rw [rounds_succ]
 refine wp_seq_k fun K11 hK11 => ?_
 refine wp_seq_k fun K12 hK12 => ?_
 refine region_dk 2 [(12, 0), (13, 1)] [[], [0]] (rel [is (.int .i64 1),
   is (.bool true)])
  ⟨is_k, is_k, trivial⟩
  ⟨fun f s W c d h i j a => opv rfl rfl (by simp [go_sem, a.e 4 k13_4]) rfl,
  fun f s W c d h i j a => opv rfl rfl (by simp [go_sem, a.e 12 (d 0 rfl)]) rfl, trivial⟩ ?_
 intro f14 s14 W14 hB14 g14 hg14
 have fB14 := hB14.f fB13
 have z14 := hB14.below.size
 have b14_0 := hB14.b b13_0
 have b14_1 := hB14.b b13_1
 have b14_2 := hB14.b b13_2
 have b14_3 := hB14.b b13_3
 have q32' := (q31'.below hB14.below)
 refine hK12 _ _ ?_
 have k14_1 := kt hg14 1 k13_1
 have k14_2 := kt hg14 2 k13_2
 have k14_3 := kt hg14 3 k13_3
 have k14_19 := kt hg14 19 k13_19
 have k14_5 := kt hg14 5 k13_5
 have k14_6 := kt hg14 6 k13_6
 have k14_25 := kt hg14 25 k13_25
 have k14_64 := kt hg14 64 k13_64
 have k14_65 := kt hg14 65 k13_65
 have k14_66 := kt hg14 66 k13_66
 have k14_4 := kt hg14 4 k13_4
 have k14_13 := kt hg14 13 (hB14.is 1)
 refine wp_cond_true ((fr_eval rfl).trans k14_13) ?_
 refine wp_skip ?_
 refine hK11 _ _ ?_
 refine wp_seq_k fun K14 hK14 => ?_
 refine wp_block ?_
 refine wp_seq_k fun K15 hK15 => ?_
 refine region_dk 5 [(16, 0), (17, 1), (18, 2), (19, 3), (5, 4)] [[], [], [0, 1], [0, 1, 2], [], [0, 1, 2, 3, 4]] (rel [is (.int .i64 1),
   is (.pointer (some ⟨(s1 0), 0, none⟩)),
   is (.pointer (some ⟨(s1 0), 4, none⟩)),
   is (.agg #[.int .u8 ((fv 4)), .int .u8 ((fv 5)), .int .u8 ((fv 6)), .int .u8 ((fv 7))]),
   bx 4 #[.int .u8 0, .int .u8 0, .int .u8 0, .int .u8 0] 22])
  ⟨is_k, is_k, is_k, is_k, bx_k, trivial⟩
  ⟨fun f s W c d h i j a => opv rfl rfl (by simp [go_sem, a.e 4 k14_4]) rfl,
  fun f s W c d h i j a => opv rfl rfl (by simp [go_sem, a.e 1 k14_1]) rfl,
  fun f s W c d h i j a => opv rfl rfl (by simp [go_sem, a.e 17 (d 1 rfl), a.e 16 (d 0 rfl)]) rfl,
  fun f s W c d h i j a => opv rfl rfl (by simp [go_sem, a.e 18 (d 2 rfl), cb b14_0 c 4, cb b14_0 c 5, cb b14_0 c 6, cb b14_0 c 7]) rfl,
  fun f s W c d h i j a => opb rfl rfl (by simp [go_sem]), trivial⟩ ?_
 intro f15 s15 W15 hB15 g15 hg15
 have fB15 := hB15.f fB14
 have z15 := hB15.below.size
 have b15_0 := hB15.b b14_0
 have b15_1 := hB15.b b14_1
 have b15_2 := hB15.b b14_2
 have b15_3 := hB15.b b14_3
 have q33' := (q32'.below hB15.below)
 obtain ⟨r15_4, br15_4⟩ := hB15.is 4
 have lr15_4 := hB15.lr 4 br15_4
 have k15_1 := kt hg15 1 k14_1
 have k15_2 := kt hg15 2 k14_2
 have k15_3 := kt hg15 3 k14_3
 have k15_6 := kt hg15 6 k14_6
 have k15_25 := kt hg15 25 k14_25
 have k15_64 := kt hg15 64 k14_64
 have k15_65 := kt hg15 65 k14_65
 have k15_66 := kt hg15 66 k14_66
 have k15_4 := kt hg15 4 k14_4
 have k15_13 := kt hg15 13 k14_13
 have k15_19 := kt hg15 19 (hB15.is 3)
 have k15_5 := kt hg15 5 r15_4
 obtain ⟨W16, hW16⟩ : ∃ W', W' = W15.setRow (s15 4) #[.int .u8 ((fv 4)), .int .u8 ((fv 5)), .int .u8 ((fv 6)), .int .u8 ((fv 7))] := ⟨_, rfl⟩
 refine tail_skip (o := _) rfl ⟨rfl, rfl⟩ (run_seg hW16 (fr_ev k15_5) (fr_ev k15_19) br15_4 rfl rfl rfl rfl) ?_
 obtain ⟨fB16, nb16, ot16, z16⟩ := seg_facts hW16 fB15 br15_4 (by omega)
 clear hW16
 have b16_0 := ot16 _ _ (by first | assumption | exact Ne.symm (by assumption) | omega) b15_0
 have b16_1 := ot16 _ _ (by first | assumption | exact Ne.symm (by assumption) | omega) b15_1
 have b16_2 := ot16 _ _ (by first | assumption | exact Ne.symm (by assumption) | omega) b15_2
 have b16_3 := ot16 _ _ (by first | assumption | exact Ne.symm (by assumption) | omega) b15_3
 have q34' := q33'.other ot16 (ownR_ne q33' br15_4) z16
 refine wpOps_end ?_
 refine hK15 _ _ ?_
 refine wp_seq_k fun K16 hK16 => ?_
 refine region_dk 5 [(20, 0), (21, 1), (22, 2), (23, 3), (6, 4)] [[], [0], [0, 1], [0, 1, 2], [0, 1, 2, 3]] (rel [is (.pointer (some ⟨(s15 4), 1, none⟩)),
   is (.int .u8 ((fv 5))),
   is (.int .i64 ((fv 5))),
   is (.int .i64 (100 + (fv 5))),
   is (.int .i64 (100 + (fv 5)))])
  ⟨is_k, is_k, is_k, is_k, is_k, trivial⟩
  ⟨fun f s W c d h i j a => opv rfl rfl (by simp [go_sem, a.e 5 k15_5]) rfl,
  fun f s W c d h i j a => opv rfl rfl (by simp [go_sem, a.e 20 (d 0 rfl), cb nb16 c 1]) rfl,
  fun f s W c d h i j a => by have gf_ := gfv 5; have cv_ := IntWalk.i64_in (fv 5) (by omega); exact opv rfl rfl (by simp [go_sem, a.e 21 (d 1 rfl), cv_]) rfl,
  fun f s W c d h i j a => opv rfl rfl (by simp [go_sem, a.e 22 (d 2 rfl), IntWalk.i64_in (100 + (fv 5)) (by omega)]) rfl,
  fun f s W c d h i j a => opv rfl rfl (by simp [go_sem, a.e 23 (d 3 rfl)]) rfl, trivial⟩ ?_
 intro f17 s17 W17 hB17 g17 hg17
 have fB17 := hB17.f fB16
 have z17 := hB17.below.size
 have b17_0 := hB17.b b16_0
 have b17_1 := hB17.b b16_1
 have b17_2 := hB17.b b16_2
 have b17_3 := hB17.b b16_3
 have b17_4 := hB17.b nb16
 have q35' := (q34'.below hB17.below)
 refine hK16 _ _ ?_
 have k17_1 := kt hg17 1 k15_1
 have k17_2 := kt hg17 2 k15_2
 have k17_3 := kt hg17 3 k15_3
 have k17_25 := kt hg17 25 k15_25
 have k17_64 := kt hg17 64 k15_64
 have k17_65 := kt hg17 65 k15_65
 have k17_66 := kt hg17 66 k15_66
 have k17_4 := kt hg17 4 k15_4
 have k17_13 := kt hg17 13 k15_13
 have k17_19 := kt hg17 19 k15_19
 have k17_5 := kt hg17 5 k15_5
 have k17_6 := kt hg17 6 (hB17.is 4)
 have nk1_6 : g17 6 = .int .i64 (lw 1) := k17_6.trans (by rw [hlw1])
 refine region_dk 41 [(24, 0), (25, 1), (26, 2), (27, 3), (28, 4), (29, 5), (30, 6), (31, 7), (32, 8), (33, 9), (34, 10), (35, 11), (36, 12), (37, 13), (38, 14), (39, 15), (40, 16), (41, 17), (42, 18), (43, 19), (44, 20), (45, 21), (46, 22), (47, 23), (48, 24), (49, 25), (50, 26), (51, 27), (52, 28), (53, 29), (54, 30), (55, 31), (56, 32), (57, 33), (58, 34), (59, 35), (60, 36), (61, 37), (62, 38), (63, 39), (64, 40), (65, 41), (66, 42)] [[], [0], [], [2], [2, 3], [], [5], [5, 6], [5, 6, 7], [], [], [], [11], [11, 12], [11, 12, 13], [10, 11, 12, 13, 14], [9, 10, 11, 12, 13, 14, 15], [], [17], [17, 18], [17, 18, 19], [], [21], [21, 22], [21, 22, 23], [], [25], [25, 26], [25, 26, 27], [21, 22, 23, 24, 25, 26, 27, 28], [9, 10, 11, 12, 13, 14, 15, 16, 17, 18, 19, 20, 21, 22, 23, 24, 25, 26, 27, 28, 29], [], [31], [31, 32], [31, 32, 33], [], [35], [35, 36], [35, 36, 37], [2, 3, 4, 5, 6, 7, 8, 9, 10, 11, 12, 13, 14, 15, 16, 17, 18, 19, 20, 21, 22, 23, 24, 25, 26, 27, 28, 29, 30, 31, 32, 33, 34, 35, 36, 37, 38], [2, 3, 4, 5, 6, 7, 8, 9, 10, 11, 12, 13, 14, 15, 16, 17, 18, 19, 20, 21, 22, 23, 24, 25, 26, 27, 28, 29, 30, 31, 32, 33, 34, 35, 36, 37, 38, 39], [0, 1, 2, 3, 4, 5, 6, 7, 8, 9, 10, 11, 12, 13, 14, 15, 16, 17, 18, 19, 20, 21, 22, 23, 24, 25, 26, 27, 28, 29, 30, 31, 32, 33, 34, 35, 36, 37, 38, 39, 40], [0, 1, 2, 3, 4, 5, 6, 7, 8, 9, 10, 11, 12, 13, 14, 15, 16, 17, 18, 19, 20, 21, 22, 23, 24, 25, 26, 27, 28, 29, 30, 31, 32, 33, 34, 35, 36, 37, 38, 39, 40, 41], [0, 1, 2, 3, 4, 5, 6, 7, 8, 9, 10, 11, 12, 13, 14, 15, 16, 17, 18, 19, 20, 21, 22, 23, 24, 25, 26, 27, 28, 29, 30, 31, 32, 33, 34, 35, 36, 37, 38, 39, 40, 41, 42]] (rel [is (.pointer (some ⟨(s2 1), 0, none⟩)),
   is (.slice (some ⟨ga10, 0, none⟩) (1) (ca10)),
   is (.int .i64 1),
   is (.int .i64 1),
   is (.int .i64 2),
   is (.pointer (some ⟨(s15 4), 0, none⟩)),
   is (.int .u8 ((fv 4))),
   is (.int .i64 ((fv 4))),
   is (.int .i64 (80 + (fv 4))),
   is (.int .i64 ((lw 1))),
   is (.int .i64 ((lw 1))),
   is (.pointer (some ⟨(s15 4), 2, none⟩)),
   is (.int .u8 ((fv 6))),
   is (.int .i64 ((fv 6))),
   is (.int .i64 ((tt 1))),
   is (.int .i64 ((lw 1) + (tt 1))),
   is (.agg #[.int .i64 ((lw 1)), .int .i64 ((lw 1) + (tt 1))]),
   is (.pointer (some ⟨(s15 4), 3, none⟩)),
   is (.int .u8 ((fv 7))),
   is (.int .i64 ((fv 7))),
   is (.int .i64 ((mm 1))),
   is (.pointer (some ⟨(s15 4), 3, none⟩)),
   is (.int .u8 ((fv 7))),
   is (.int .i64 ((fv 7))),
   is (.int .i64 ((mm 1))),
   is (.pointer (some ⟨(s15 4), 2, none⟩)),
   is (.int .u8 ((fv 6))),
   is (.int .i64 ((fv 6))),
   is (.int .i64 ((dd 1))),
   is (.int .i64 ((mm 1) + (dd 1))),
   is (.agg #[.int .i64 ((mm 1)), .int .i64 ((mm 1) + (dd 1))]),
   is (.pointer (some ⟨(s15 4), 0, none⟩)),
   is (.int .u8 ((fv 4))),
   is (.int .i64 ((fv 4))),
   is (.int .i64 (2000 * (fv 4))),
   is (.pointer (some ⟨(s15 4), 1, none⟩)),
   is (.int .u8 ((fv 5))),
   is (.int .i64 ((fv 5))),
   is (.int .i64 (5 * (fv 5))),
   is (.agg #[.int .i64 2, .int .i64 (80 + (fv 4)), .int .i64 ((lw 1)), .int .i64 ((lw 1) + (tt 1)), .int .i64 ((mm 1)), .int .i64 ((mm 1) + (dd 1)), .int .i64 (2000 * (fv 4)), .int .i64 (5 * (fv 5))]),
   row 40 1 #[.int .i64 2, .int .i64 (80 + (fv 4)), .int .i64 ((lw 1)), .int .i64 ((lw 1) + (tt 1)), .int .i64 ((mm 1)), .int .i64 ((mm 1) + (dd 1)), .int .i64 (2000 * (fv 4)), .int .i64 (5 * (fv 5))] 68])
  ⟨is_k, is_k, is_k, is_k, is_k, is_k, is_k, is_k, is_k, is_k, is_k, is_k, is_k, is_k, is_k, is_k, is_k, is_k, is_k, is_k, is_k, is_k, is_k, is_k, is_k, is_k, is_k, is_k, is_k, is_k, is_k, is_k, is_k, is_k, is_k, is_k, is_k, is_k, is_k, is_k, row_k, trivial⟩
  ⟨fun f s W c d h i j a => opv rfl rfl (by simp [go_sem, a.e 3 k17_3]) rfl,
  fun f s W c d h i j a => opv rfl rfl (by simp [go_sem, a.e 24 (d 0 rfl), cb b17_2 c 0]) rfl,
  fun f s W c d h i j a => opv rfl rfl (by simp [go_sem, a.e 4 k17_4]) rfl,
  fun f s W c d h i j a => by have qw_ := IntWalk.i64_in (1) (by decide); exact opv rfl rfl (by simp [go_sem, a.e 26 (d 2 rfl), qw_]) rfl,
  fun f s W c d h i j a => opv rfl rfl (by simp [go_sem, a.e 27 (d 3 rfl), IntWalk.i64_in (2) (by omega)]) rfl,
  fun f s W c d h i j a => opv rfl rfl (by simp [go_sem, a.e 5 k17_5]) rfl,
  fun f s W c d h i j a => opv rfl rfl (by simp [go_sem, a.e 29 (d 5 rfl), cb b17_4 c 0]) rfl,
  fun f s W c d h i j a => by have gf_ := gfv 4; have cv_ := IntWalk.i64_in (fv 4) (by omega); exact opv rfl rfl (by simp [go_sem, a.e 30 (d 6 rfl), cv_]) rfl,
  fun f s W c d h i j a => opv rfl rfl (by simp [go_sem, a.e 31 (d 7 rfl), IntWalk.i64_in (80 + (fv 4)) (by omega)]) rfl,
  fun f s W c d h i j a => opv rfl rfl (by simp [go_sem, a.e 6 nk1_6]) rfl,
  fun f s W c d h i j a => opv rfl rfl (by simp [go_sem, a.e 6 nk1_6]) rfl,
  fun f s W c d h i j a => opv rfl rfl (by simp [go_sem, a.e 5 k17_5]) rfl,
  fun f s W c d h i j a => opv rfl rfl (by simp [go_sem, a.e 35 (d 11 rfl), cb b17_4 c 2]) rfl,
  fun f s W c d h i j a => by have gf_ := gfv 6; have cv_ := IntWalk.i64_in (fv 6) (by omega); exact opv rfl rfl (by simp [go_sem, a.e 36 (d 12 rfl), cv_]) rfl,
  fun f s W c d h i j a => by have gf_ := gfv 6; have qu_ : ((fv 6)).tmod 60 = tt 1 := (Int.tmod_eq_emod_of_nonneg (by omega)).trans htt1; have qw_ := IntWalk.i64_in (tt 1) (by omega); exact opv rfl rfl (by simp [go_sem, a.e 37 (d 13 rfl), qu_, qw_]) rfl,
  fun f s W c d h i j a => opv rfl rfl (by simp [go_sem, a.e 34 (d 10 rfl), a.e 38 (d 14 rfl), IntWalk.i64_in ((lw 1) + (tt 1)) (by omega)]) rfl,
  fun f s W c d h i j a => opc rfl rfl (by simp [go_sem, a.e 33 (d 9 rfl), a.e 39 (d 15 rfl)]) (pubSpan_any ((lw 1)) ((lw 1) + (tt 1)) W),
  fun f s W c d h i j a => opv rfl rfl (by simp [go_sem, a.e 5 k17_5]) rfl,
  fun f s W c d h i j a => opv rfl rfl (by simp [go_sem, a.e 41 (d 17 rfl), cb b17_4 c 3]) rfl,
  fun f s W c d h i j a => by have gf_ := gfv 7; have cv_ := IntWalk.i64_in (fv 7) (by omega); exact opv rfl rfl (by simp [go_sem, a.e 42 (d 18 rfl), cv_]) rfl,
  fun f s W c d h i j a => by have gf_ := gfv 7; have qu_ : ((fv 7)).tmod 90 = mm 1 := (Int.tmod_eq_emod_of_nonneg (by omega)).trans hmm1; have qw_ := IntWalk.i64_in (mm 1) (by omega); exact opv rfl rfl (by simp [go_sem, a.e 43 (d 19 rfl), qu_, qw_]) rfl,
  fun f s W c d h i j a => opv rfl rfl (by simp [go_sem, a.e 5 k17_5]) rfl,
  fun f s W c d h i j a => opv rfl rfl (by simp [go_sem, a.e 45 (d 21 rfl), cb b17_4 c 3]) rfl,
  fun f s W c d h i j a => by have gf_ := gfv 7; have cv_ := IntWalk.i64_in (fv 7) (by omega); exact opv rfl rfl (by simp [go_sem, a.e 46 (d 22 rfl), cv_]) rfl,
  fun f s W c d h i j a => by have gf_ := gfv 7; have qu_ : ((fv 7)).tmod 90 = mm 1 := (Int.tmod_eq_emod_of_nonneg (by omega)).trans hmm1; have qw_ := IntWalk.i64_in (mm 1) (by omega); exact opv rfl rfl (by simp [go_sem, a.e 47 (d 23 rfl), qu_, qw_]) rfl,
  fun f s W c d h i j a => opv rfl rfl (by simp [go_sem, a.e 5 k17_5]) rfl,
  fun f s W c d h i j a => opv rfl rfl (by simp [go_sem, a.e 49 (d 25 rfl), cb b17_4 c 2]) rfl,
  fun f s W c d h i j a => by have gf_ := gfv 6; have cv_ := IntWalk.i64_in (fv 6) (by omega); exact opv rfl rfl (by simp [go_sem, a.e 50 (d 26 rfl), cv_]) rfl,
  fun f s W c d h i j a => by have gf_ := gfv 6; have qu_ : ((fv 6)).tmod 20 = dd 1 := (Int.tmod_eq_emod_of_nonneg (by omega)).trans hdd1; have qw_ := IntWalk.i64_in (dd 1) (by omega); exact opv rfl rfl (by simp [go_sem, a.e 51 (d 27 rfl), qu_, qw_]) rfl,
  fun f s W c d h i j a => opv rfl rfl (by simp [go_sem, a.e 48 (d 24 rfl), a.e 52 (d 28 rfl), IntWalk.i64_in ((mm 1) + (dd 1)) (by omega)]) rfl,
  fun f s W c d h i j a => opc rfl rfl (by simp [go_sem, a.e 44 (d 20 rfl), a.e 53 (d 29 rfl)]) (pubSpan_any ((mm 1)) ((mm 1) + (dd 1)) W),
  fun f s W c d h i j a => opv rfl rfl (by simp [go_sem, a.e 5 k17_5]) rfl,
  fun f s W c d h i j a => opv rfl rfl (by simp [go_sem, a.e 55 (d 31 rfl), cb b17_4 c 0]) rfl,
  fun f s W c d h i j a => by have gf_ := gfv 4; have cv_ := IntWalk.i64_in (fv 4) (by omega); exact opv rfl rfl (by simp [go_sem, a.e 56 (d 32 rfl), cv_]) rfl,
  fun f s W c d h i j a => opv rfl rfl (by simp [go_sem, a.e 57 (d 33 rfl), IntWalk.i64_in (2000 * (fv 4)) (by omega)]) rfl,
  fun f s W c d h i j a => opv rfl rfl (by simp [go_sem, a.e 5 k17_5]) rfl,
  fun f s W c d h i j a => opv rfl rfl (by simp [go_sem, a.e 59 (d 35 rfl), cb b17_4 c 1]) rfl,
  fun f s W c d h i j a => by have gf_ := gfv 5; have cv_ := IntWalk.i64_in (fv 5) (by omega); exact opv rfl rfl (by simp [go_sem, a.e 60 (d 36 rfl), cv_]) rfl,
  fun f s W c d h i j a => opv rfl rfl (by simp [go_sem, a.e 61 (d 37 rfl), IntWalk.i64_in (5 * (fv 5)) (by omega)]) rfl,
  fun f s W c d h i j a => opv rfl rfl (by simp [go_sem, a.e 28 (d 4 rfl), a.e 32 (d 8 rfl), a.e 40 (d 16 rfl), a.e 54 (d 30 rfl), a.e 58 (d 34 rfl), a.e 62 (d 38 rfl)]) rfl,
  fun f s W c d h i j a => opr rfl rfl (by simp [go_sem, a.e 63 (d 39 rfl)]), trivial⟩ ?_
 intro f18 s18 W18 hB18 g18 hg18
 have fB18 := hB18.f fB17
 have z18 := hB18.below.size
 have b18_0 := hB18.b b17_0
 have b18_1 := hB18.b b17_1
 have b18_2 := hB18.b b17_2
 have b18_3 := hB18.b b17_3
 have b18_4 := hB18.b b17_4
 have q36' := (q35'.below hB18.below)
 obtain ⟨r18_40, br18_40⟩ := hB18.is 40
 have lr18_40 := hB18.lr 40 br18_40
 have k18_1 := kt hg18 1 k17_1
 have k18_2 := kt hg18 2 k17_2
 have k18_3 := kt hg18 3 k17_3
 have k18_4 := kt hg18 4 k17_4
 have k18_13 := kt hg18 13 k17_13
 have k18_19 := kt hg18 19 k17_19
 have k18_5 := kt hg18 5 k17_5
 have k18_6 := kt hg18 6 nk1_6
 have k18_25 := kt hg18 25 (hB18.is 1)
 have k18_64 := kt hg18 64 r18_40
 obtain ⟨ga19, ca19, W19, ra19, ow19, ot19, z19, gg19, fB19⟩ := growR_tail 30 30 68 8 64 _ (by kernel_rfl) Try.infoP rfl [.int .i64 1, .int .i64 (80 + (fv 0)), .int .i64 ((lw 0)), .int .i64 ((lw 0) + (tt 0)), .int .i64 ((mm 0)), .int .i64 ((mm 0) + (dd 0)), .int .i64 (2000 * (fv 0)), .int .i64 (5 * (fv 1)), .int .i64 2, .int .i64 (80 + (fv 4)), .int .i64 ((lw 1)), .int .i64 ((lw 1) + (tt 1)), .int .i64 ((mm 1)), .int .i64 ((mm 1) + (dd 1)), .int .i64 (2000 * (fv 4)), .int .i64 (5 * (fv 5))] 2 (off := 0) (k := 1) (c' := 1) [.int .i64 2, .int .i64 (80 + (fv 4)), .int .i64 ((lw 1)), .int .i64 ((lw 1) + (tt 1)), .int .i64 ((mm 1)), .int .i64 ((mm 1) + (dd 1)), .int .i64 (2000 * (fv 4)), .int .i64 (5 * (fv 5))] fB18 q36' rfl rfl rfl rfl (cells_at br18_40) rfl
 refine tail_value2 (o := _) rfl rfl rfl (run_appendOp (fr_ev k18_25) (fr_ev k18_64) ra19) ?_
 have lo19 := ow19.lim
 have b19_0 := ot19 _ _ (by first | assumption | exact Ne.symm (by assumption) | omega) b18_0
 have b19_1 := ot19 _ _ (by first | assumption | exact Ne.symm (by assumption) | omega) b18_1
 have b19_2 := ot19 _ _ (by first | assumption | exact Ne.symm (by assumption) | omega) b18_2
 have b19_3 := ot19 _ _ (by first | assumption | exact Ne.symm (by assumption) | omega) b18_3
 have b19_4 := ot19 _ _ (by first | assumption | exact Ne.symm (by assumption) | omega) b18_4
 generalize hg19 : upd g18 65 (.slice (some ⟨ga19, 0, none⟩) (2) (ca19)) = g19
 have k19_1 := ku hg19 1 k18_1
 have k19_2 := ku hg19 2 k18_2
 have k19_3 := ku hg19 3 k18_3
 have k19_4 := ku hg19 4 k18_4
 have k19_13 := ku hg19 13 k18_13
 have k19_19 := ku hg19 19 k18_19
 have k19_5 := ku hg19 5 k18_5
 have k19_6 := ku hg19 6 k18_6
 have k19_25 := ku hg19 25 k18_25
 have k19_64 := ku hg19 64 k18_64
 have k19_65 := kt hg19 65 (upd_same _ _ _)
 refine tail_value (o := _) rfl rfl rfl (v := .pointer (some ⟨(s2 1), 0, none⟩)) (by simp [go_sem, frv 109 k19_3]) ?_
 generalize hg20 : upd g19 66 (.pointer (some ⟨(s2 1), 0, none⟩)) = g20
 have k20_1 := ku hg20 1 k19_1
 have k20_2 := ku hg20 2 k19_2
 have k20_3 := ku hg20 3 k19_3
 have k20_4 := ku hg20 4 k19_4
 have k20_13 := ku hg20 13 k19_13
 have k20_19 := ku hg20 19 k19_19
 have k20_5 := ku hg20 5 k19_5
 have k20_6 := ku hg20 6 k19_6
 have k20_25 := ku hg20 25 k19_25
 have k20_64 := ku hg20 64 k19_64
 have k20_65 := ku hg20 65 k19_65
 have k20_66 := kt hg20 66 (upd_same _ _ _)
 obtain ⟨W21, hW21⟩ : ∃ W', W' = W19.setRow (s2 1) #[.slice (some ⟨ga19, 0, none⟩) (2) (ca19), .slice (none) (0) (0)] := ⟨_, rfl⟩
 refine tail_skip (o := _) rfl ⟨rfl, rfl⟩ (run_seg hW21 (fr_ev k20_66) (fr_ev k20_65) b19_2 rfl rfl rfl rfl) ?_
 obtain ⟨fB21, nb21, ot21, z21⟩ := seg_facts hW21 fB19 b19_2 (by omega)
 clear hW21
 have b21_0 := ot21 _ _ (by first | assumption | exact Ne.symm (by assumption) | omega) b19_0
 have b21_1 := ot21 _ _ (by first | assumption | exact Ne.symm (by assumption) | omega) b19_1
 have b21_3 := ot21 _ _ (by first | assumption | exact Ne.symm (by assumption) | omega) b19_3
 have b21_4 := ot21 _ _ (by first | assumption | exact Ne.symm (by assumption) | omega) b19_4
 have q37' := ow19.other ot21 (ownR_ne ow19 b19_2) z21
 refine wpOps_end ?_
 refine inBlock_normal ?_
 refine hK14 _ _ ?_
 refine region_dk 3 [(14, 0), (15, 1), (4, 2)] [[], [0], [0, 1]] (rel [is (.int .i64 1),
   is (.int .i64 2),
   is (.int .i64 2)])
  ⟨is_k, is_k, is_k, trivial⟩
  ⟨fun f s W c d h i j a => opv rfl rfl (by simp [go_sem, a.e 4 ((i 2 4 rfl rfl).trans k20_4)]) rfl,
  fun f s W c d h i j a => opv rfl rfl (by simp [go_sem, a.e 14 (d 0 rfl), IntWalk.i64_in (2) (by omega)]) rfl,
  fun f s W c d h i j a => opv rfl rfl (by simp [go_sem, a.e 15 (d 1 rfl)]) rfl, trivial⟩ ?_
 intro f22 s22 W22 hB22 g22 hg22
 have fB22 := hB22.f fB21
 have z22 := hB22.below.size
 have b22_0 := hB22.b b21_0
 have b22_1 := hB22.b b21_1
 have b22_2 := hB22.b nb21
 have b22_3 := hB22.b b21_3
 have b22_4 := hB22.b b21_4
 have q38' := (q37'.below hB22.below)
 refine wpOps_end ?_
 have k22_1 := kt hg22 1 k20_1
 have k22_2 := kt hg22 2 k20_2
 have k22_3 := kt hg22 3 k20_3
 have k22_13 := kt hg22 13 k20_13
 have k22_19 := kt hg22 19 k20_19
 have k22_5 := kt hg22 5 k20_5
 have k22_6 := kt hg22 6 k20_6
 have k22_25 := kt hg22 25 k20_25
 have k22_64 := kt hg22 64 k20_64
 have k22_65 := kt hg22 65 k20_65
 have k22_66 := kt hg22 66 k20_66
 have k22_4 := kt hg22 4 (hB22.is 2)
 refine then_normal ?_
 rw [rounds_succ]
 refine wp_seq_k fun K17 hK17 => ?_
 refine wp_seq_k fun K18 hK18 => ?_
 refine region_dk 2 [(12, 0), (13, 1)] [[], [0]] (rel [is (.int .i64 2),
   is (.bool true)])
  ⟨is_k, is_k, trivial⟩
  ⟨fun f s W c d h i j a => opv rfl rfl (by simp [go_sem, a.e 4 k22_4]) rfl,
  fun f s W c d h i j a => opv rfl rfl (by simp [go_sem, a.e 12 (d 0 rfl)]) rfl, trivial⟩ ?_
 intro f23 s23 W23 hB23 g23 hg23
 have fB23 := hB23.f fB22
 have z23 := hB23.below.size
 have b23_0 := hB23.b b22_0
 have b23_1 := hB23.b b22_1
 have b23_2 := hB23.b b22_2
 have b23_3 := hB23.b b22_3
 have b23_4 := hB23.b b22_4
 have q39' := (q38'.below hB23.below)
 refine hK18 _ _ ?_
 have k23_1 := kt hg23 1 k22_1
 have k23_2 := kt hg23 2 k22_2
 have k23_3 := kt hg23 3 k22_3
 have k23_19 := kt hg23 19 k22_19
 have k23_5 := kt hg23 5 k22_5
 have k23_6 := kt hg23 6 k22_6
 have k23_25 := kt hg23 25 k22_25
 have k23_64 := kt hg23 64 k22_64
 have k23_65 := kt hg23 65 k22_65
 have k23_66 := kt hg23 66 k22_66
 have k23_4 := kt hg23 4 k22_4
 have k23_13 := kt hg23 13 (hB23.is 1)
 refine wp_cond_true ((fr_eval rfl).trans k23_13) ?_
 refine wp_skip ?_
 refine hK17 _ _ ?_
 refine wp_seq_k fun K20 hK20 => ?_
 refine wp_block ?_
 refine wp_seq_k fun K21 hK21 => ?_
 refine region_dk 5 [(16, 0), (17, 1), (18, 2), (19, 3), (5, 4)] [[], [], [0, 1], [0, 1, 2], [], [0, 1, 2, 3, 4]] (rel [is (.int .i64 2),
   is (.pointer (some ⟨(s1 0), 0, none⟩)),
   is (.pointer (some ⟨(s1 0), 8, none⟩)),
   is (.agg #[.int .u8 ((fv 8)), .int .u8 ((fv 9)), .int .u8 ((fv 10)), .int .u8 ((fv 11))]),
   bx 4 #[.int .u8 0, .int .u8 0, .int .u8 0, .int .u8 0] 22])
  ⟨is_k, is_k, is_k, is_k, bx_k, trivial⟩
  ⟨fun f s W c d h i j a => opv rfl rfl (by simp [go_sem, a.e 4 k23_4]) rfl,
  fun f s W c d h i j a => opv rfl rfl (by simp [go_sem, a.e 1 k23_1]) rfl,
  fun f s W c d h i j a => opv rfl rfl (by simp [go_sem, a.e 17 (d 1 rfl), a.e 16 (d 0 rfl)]) rfl,
  fun f s W c d h i j a => opv rfl rfl (by simp [go_sem, a.e 18 (d 2 rfl), cb b23_0 c 8, cb b23_0 c 9, cb b23_0 c 10, cb b23_0 c 11]) rfl,
  fun f s W c d h i j a => opb rfl rfl (by simp [go_sem]), trivial⟩ ?_
 intro f24 s24 W24 hB24 g24 hg24
 have fB24 := hB24.f fB23
 have z24 := hB24.below.size
 have b24_0 := hB24.b b23_0
 have b24_1 := hB24.b b23_1
 have b24_2 := hB24.b b23_2
 have b24_3 := hB24.b b23_3
 have b24_4 := hB24.b b23_4
 have q40' := (q39'.below hB24.below)
 obtain ⟨r24_4, br24_4⟩ := hB24.is 4
 have lr24_4 := hB24.lr 4 br24_4
 have k24_1 := kt hg24 1 k23_1
 have k24_2 := kt hg24 2 k23_2
 have k24_3 := kt hg24 3 k23_3
 have k24_6 := kt hg24 6 k23_6
 have k24_25 := kt hg24 25 k23_25
 have k24_64 := kt hg24 64 k23_64
 have k24_65 := kt hg24 65 k23_65
 have k24_66 := kt hg24 66 k23_66
 have k24_4 := kt hg24 4 k23_4
 have k24_13 := kt hg24 13 k23_13
 have k24_19 := kt hg24 19 (hB24.is 3)
 have k24_5 := kt hg24 5 r24_4
 obtain ⟨W25, hW25⟩ : ∃ W', W' = W24.setRow (s24 4) #[.int .u8 ((fv 8)), .int .u8 ((fv 9)), .int .u8 ((fv 10)), .int .u8 ((fv 11))] := ⟨_, rfl⟩
 refine tail_skip (o := _) rfl ⟨rfl, rfl⟩ (run_seg hW25 (fr_ev k24_5) (fr_ev k24_19) br24_4 rfl rfl rfl rfl) ?_
 obtain ⟨fB25, nb25, ot25, z25⟩ := seg_facts hW25 fB24 br24_4 (by omega)
 clear hW25
 have b25_0 := ot25 _ _ (by first | assumption | exact Ne.symm (by assumption) | omega) b24_0
 have b25_1 := ot25 _ _ (by first | assumption | exact Ne.symm (by assumption) | omega) b24_1
 have b25_2 := ot25 _ _ (by first | assumption | exact Ne.symm (by assumption) | omega) b24_2
 have b25_3 := ot25 _ _ (by first | assumption | exact Ne.symm (by assumption) | omega) b24_3
 have b25_4 := ot25 _ _ (by first | assumption | exact Ne.symm (by assumption) | omega) b24_4
 have q41' := q40'.other ot25 (ownR_ne q40' br24_4) z25
 refine wpOps_end ?_
 refine hK21 _ _ ?_
 refine wp_seq_k fun K22 hK22 => ?_
 refine region_dk 5 [(20, 0), (21, 1), (22, 2), (23, 3), (6, 4)] [[], [0], [0, 1], [0, 1, 2], [0, 1, 2, 3]] (rel [is (.pointer (some ⟨(s24 4), 1, none⟩)),
   is (.int .u8 ((fv 9))),
   is (.int .i64 ((fv 9))),
   is (.int .i64 (100 + (fv 9))),
   is (.int .i64 (100 + (fv 9)))])
  ⟨is_k, is_k, is_k, is_k, is_k, trivial⟩
  ⟨fun f s W c d h i j a => opv rfl rfl (by simp [go_sem, a.e 5 k24_5]) rfl,
  fun f s W c d h i j a => opv rfl rfl (by simp [go_sem, a.e 20 (d 0 rfl), cb nb25 c 1]) rfl,
  fun f s W c d h i j a => by have gf_ := gfv 9; have cv_ := IntWalk.i64_in (fv 9) (by omega); exact opv rfl rfl (by simp [go_sem, a.e 21 (d 1 rfl), cv_]) rfl,
  fun f s W c d h i j a => opv rfl rfl (by simp [go_sem, a.e 22 (d 2 rfl), IntWalk.i64_in (100 + (fv 9)) (by omega)]) rfl,
  fun f s W c d h i j a => opv rfl rfl (by simp [go_sem, a.e 23 (d 3 rfl)]) rfl, trivial⟩ ?_
 intro f26 s26 W26 hB26 g26 hg26
 have fB26 := hB26.f fB25
 have z26 := hB26.below.size
 have b26_0 := hB26.b b25_0
 have b26_1 := hB26.b b25_1
 have b26_2 := hB26.b b25_2
 have b26_3 := hB26.b b25_3
 have b26_4 := hB26.b b25_4
 have b26_5 := hB26.b nb25
 have q42' := (q41'.below hB26.below)
 refine hK22 _ _ ?_
 have k26_1 := kt hg26 1 k24_1
 have k26_2 := kt hg26 2 k24_2
 have k26_3 := kt hg26 3 k24_3
 have k26_25 := kt hg26 25 k24_25
 have k26_64 := kt hg26 64 k24_64
 have k26_65 := kt hg26 65 k24_65
 have k26_66 := kt hg26 66 k24_66
 have k26_4 := kt hg26 4 k24_4
 have k26_13 := kt hg26 13 k24_13
 have k26_19 := kt hg26 19 k24_19
 have k26_5 := kt hg26 5 k24_5
 have k26_6 := kt hg26 6 (hB26.is 4)
 have nk2_6 : g26 6 = .int .i64 (lw 2) := k26_6.trans (by rw [hlw2])
 refine region_dk 41 [(24, 0), (25, 1), (26, 2), (27, 3), (28, 4), (29, 5), (30, 6), (31, 7), (32, 8), (33, 9), (34, 10), (35, 11), (36, 12), (37, 13), (38, 14), (39, 15), (40, 16), (41, 17), (42, 18), (43, 19), (44, 20), (45, 21), (46, 22), (47, 23), (48, 24), (49, 25), (50, 26), (51, 27), (52, 28), (53, 29), (54, 30), (55, 31), (56, 32), (57, 33), (58, 34), (59, 35), (60, 36), (61, 37), (62, 38), (63, 39), (64, 40), (65, 41), (66, 42)] [[], [0], [], [2], [2, 3], [], [5], [5, 6], [5, 6, 7], [], [], [], [11], [11, 12], [11, 12, 13], [10, 11, 12, 13, 14], [9, 10, 11, 12, 13, 14, 15], [], [17], [17, 18], [17, 18, 19], [], [21], [21, 22], [21, 22, 23], [], [25], [25, 26], [25, 26, 27], [21, 22, 23, 24, 25, 26, 27, 28], [9, 10, 11, 12, 13, 14, 15, 16, 17, 18, 19, 20, 21, 22, 23, 24, 25, 26, 27, 28, 29], [], [31], [31, 32], [31, 32, 33], [], [35], [35, 36], [35, 36, 37], [2, 3, 4, 5, 6, 7, 8, 9, 10, 11, 12, 13, 14, 15, 16, 17, 18, 19, 20, 21, 22, 23, 24, 25, 26, 27, 28, 29, 30, 31, 32, 33, 34, 35, 36, 37, 38], [2, 3, 4, 5, 6, 7, 8, 9, 10, 11, 12, 13, 14, 15, 16, 17, 18, 19, 20, 21, 22, 23, 24, 25, 26, 27, 28, 29, 30, 31, 32, 33, 34, 35, 36, 37, 38, 39], [0, 1, 2, 3, 4, 5, 6, 7, 8, 9, 10, 11, 12, 13, 14, 15, 16, 17, 18, 19, 20, 21, 22, 23, 24, 25, 26, 27, 28, 29, 30, 31, 32, 33, 34, 35, 36, 37, 38, 39, 40], [0, 1, 2, 3, 4, 5, 6, 7, 8, 9, 10, 11, 12, 13, 14, 15, 16, 17, 18, 19, 20, 21, 22, 23, 24, 25, 26, 27, 28, 29, 30, 31, 32, 33, 34, 35, 36, 37, 38, 39, 40, 41], [0, 1, 2, 3, 4, 5, 6, 7, 8, 9, 10, 11, 12, 13, 14, 15, 16, 17, 18, 19, 20, 21, 22, 23, 24, 25, 26, 27, 28, 29, 30, 31, 32, 33, 34, 35, 36, 37, 38, 39, 40, 41, 42]] (rel [is (.pointer (some ⟨(s2 1), 0, none⟩)),
   is (.slice (some ⟨ga19, 0, none⟩) (2) (ca19)),
   is (.int .i64 2),
   is (.int .i64 0),
   is (.int .i64 1),
   is (.pointer (some ⟨(s24 4), 0, none⟩)),
   is (.int .u8 ((fv 8))),
   is (.int .i64 ((fv 8))),
   is (.int .i64 (80 + (fv 8))),
   is (.int .i64 ((lw 2))),
   is (.int .i64 ((lw 2))),
   is (.pointer (some ⟨(s24 4), 2, none⟩)),
   is (.int .u8 ((fv 10))),
   is (.int .i64 ((fv 10))),
   is (.int .i64 ((tt 2))),
   is (.int .i64 ((lw 2) + (tt 2))),
   is (.agg #[.int .i64 ((lw 2)), .int .i64 ((lw 2) + (tt 2))]),
   is (.pointer (some ⟨(s24 4), 3, none⟩)),
   is (.int .u8 ((fv 11))),
   is (.int .i64 ((fv 11))),
   is (.int .i64 ((mm 2))),
   is (.pointer (some ⟨(s24 4), 3, none⟩)),
   is (.int .u8 ((fv 11))),
   is (.int .i64 ((fv 11))),
   is (.int .i64 ((mm 2))),
   is (.pointer (some ⟨(s24 4), 2, none⟩)),
   is (.int .u8 ((fv 10))),
   is (.int .i64 ((fv 10))),
   is (.int .i64 ((dd 2))),
   is (.int .i64 ((mm 2) + (dd 2))),
   is (.agg #[.int .i64 ((mm 2)), .int .i64 ((mm 2) + (dd 2))]),
   is (.pointer (some ⟨(s24 4), 0, none⟩)),
   is (.int .u8 ((fv 8))),
   is (.int .i64 ((fv 8))),
   is (.int .i64 (2000 * (fv 8))),
   is (.pointer (some ⟨(s24 4), 1, none⟩)),
   is (.int .u8 ((fv 9))),
   is (.int .i64 ((fv 9))),
   is (.int .i64 (5 * (fv 9))),
   is (.agg #[.int .i64 1, .int .i64 (80 + (fv 8)), .int .i64 ((lw 2)), .int .i64 ((lw 2) + (tt 2)), .int .i64 ((mm 2)), .int .i64 ((mm 2) + (dd 2)), .int .i64 (2000 * (fv 8)), .int .i64 (5 * (fv 9))]),
   row 40 1 #[.int .i64 1, .int .i64 (80 + (fv 8)), .int .i64 ((lw 2)), .int .i64 ((lw 2) + (tt 2)), .int .i64 ((mm 2)), .int .i64 ((mm 2) + (dd 2)), .int .i64 (2000 * (fv 8)), .int .i64 (5 * (fv 9))] 68])
  ⟨is_k, is_k, is_k, is_k, is_k, is_k, is_k, is_k, is_k, is_k, is_k, is_k, is_k, is_k, is_k, is_k, is_k, is_k, is_k, is_k, is_k, is_k, is_k, is_k, is_k, is_k, is_k, is_k, is_k, is_k, is_k, is_k, is_k, is_k, is_k, is_k, is_k, is_k, is_k, is_k, row_k, trivial⟩
  ⟨fun f s W c d h i j a => opv rfl rfl (by simp [go_sem, a.e 3 k26_3]) rfl,
  fun f s W c d h i j a => opv rfl rfl (by simp [go_sem, a.e 24 (d 0 rfl), cb b26_2 c 0]) rfl,
  fun f s W c d h i j a => opv rfl rfl (by simp [go_sem, a.e 4 k26_4]) rfl,
  fun f s W c d h i j a => by have qw_ := IntWalk.i64_in (0) (by decide); exact opv rfl rfl (by simp [go_sem, a.e 26 (d 2 rfl), qw_]) rfl,
  fun f s W c d h i j a => opv rfl rfl (by simp [go_sem, a.e 27 (d 3 rfl), IntWalk.i64_in (1) (by omega)]) rfl,
  fun f s W c d h i j a => opv rfl rfl (by simp [go_sem, a.e 5 k26_5]) rfl,
  fun f s W c d h i j a => opv rfl rfl (by simp [go_sem, a.e 29 (d 5 rfl), cb b26_5 c 0]) rfl,
  fun f s W c d h i j a => by have gf_ := gfv 8; have cv_ := IntWalk.i64_in (fv 8) (by omega); exact opv rfl rfl (by simp [go_sem, a.e 30 (d 6 rfl), cv_]) rfl,
  fun f s W c d h i j a => opv rfl rfl (by simp [go_sem, a.e 31 (d 7 rfl), IntWalk.i64_in (80 + (fv 8)) (by omega)]) rfl,
  fun f s W c d h i j a => opv rfl rfl (by simp [go_sem, a.e 6 nk2_6]) rfl,
  fun f s W c d h i j a => opv rfl rfl (by simp [go_sem, a.e 6 nk2_6]) rfl,
  fun f s W c d h i j a => opv rfl rfl (by simp [go_sem, a.e 5 k26_5]) rfl,
  fun f s W c d h i j a => opv rfl rfl (by simp [go_sem, a.e 35 (d 11 rfl), cb b26_5 c 2]) rfl,
  fun f s W c d h i j a => by have gf_ := gfv 10; have cv_ := IntWalk.i64_in (fv 10) (by omega); exact opv rfl rfl (by simp [go_sem, a.e 36 (d 12 rfl), cv_]) rfl,
  fun f s W c d h i j a => by have gf_ := gfv 10; have qu_ : ((fv 10)).tmod 60 = tt 2 := (Int.tmod_eq_emod_of_nonneg (by omega)).trans htt2; have qw_ := IntWalk.i64_in (tt 2) (by omega); exact opv rfl rfl (by simp [go_sem, a.e 37 (d 13 rfl), qu_, qw_]) rfl,
  fun f s W c d h i j a => opv rfl rfl (by simp [go_sem, a.e 34 (d 10 rfl), a.e 38 (d 14 rfl), IntWalk.i64_in ((lw 2) + (tt 2)) (by omega)]) rfl,
  fun f s W c d h i j a => opc rfl rfl (by simp [go_sem, a.e 33 (d 9 rfl), a.e 39 (d 15 rfl)]) (pubSpan_any ((lw 2)) ((lw 2) + (tt 2)) W),
  fun f s W c d h i j a => opv rfl rfl (by simp [go_sem, a.e 5 k26_5]) rfl,
  fun f s W c d h i j a => opv rfl rfl (by simp [go_sem, a.e 41 (d 17 rfl), cb b26_5 c 3]) rfl,
  fun f s W c d h i j a => by have gf_ := gfv 11; have cv_ := IntWalk.i64_in (fv 11) (by omega); exact opv rfl rfl (by simp [go_sem, a.e 42 (d 18 rfl), cv_]) rfl,
  fun f s W c d h i j a => by have gf_ := gfv 11; have qu_ : ((fv 11)).tmod 90 = mm 2 := (Int.tmod_eq_emod_of_nonneg (by omega)).trans hmm2; have qw_ := IntWalk.i64_in (mm 2) (by omega); exact opv rfl rfl (by simp [go_sem, a.e 43 (d 19 rfl), qu_, qw_]) rfl,
  fun f s W c d h i j a => opv rfl rfl (by simp [go_sem, a.e 5 k26_5]) rfl,
  fun f s W c d h i j a => opv rfl rfl (by simp [go_sem, a.e 45 (d 21 rfl), cb b26_5 c 3]) rfl,
  fun f s W c d h i j a => by have gf_ := gfv 11; have cv_ := IntWalk.i64_in (fv 11) (by omega); exact opv rfl rfl (by simp [go_sem, a.e 46 (d 22 rfl), cv_]) rfl,
  fun f s W c d h i j a => by have gf_ := gfv 11; have qu_ : ((fv 11)).tmod 90 = mm 2 := (Int.tmod_eq_emod_of_nonneg (by omega)).trans hmm2; have qw_ := IntWalk.i64_in (mm 2) (by omega); exact opv rfl rfl (by simp [go_sem, a.e 47 (d 23 rfl), qu_, qw_]) rfl,
  fun f s W c d h i j a => opv rfl rfl (by simp [go_sem, a.e 5 k26_5]) rfl,
  fun f s W c d h i j a => opv rfl rfl (by simp [go_sem, a.e 49 (d 25 rfl), cb b26_5 c 2]) rfl,
  fun f s W c d h i j a => by have gf_ := gfv 10; have cv_ := IntWalk.i64_in (fv 10) (by omega); exact opv rfl rfl (by simp [go_sem, a.e 50 (d 26 rfl), cv_]) rfl,
  fun f s W c d h i j a => by have gf_ := gfv 10; have qu_ : ((fv 10)).tmod 20 = dd 2 := (Int.tmod_eq_emod_of_nonneg (by omega)).trans hdd2; have qw_ := IntWalk.i64_in (dd 2) (by omega); exact opv rfl rfl (by simp [go_sem, a.e 51 (d 27 rfl), qu_, qw_]) rfl,
  fun f s W c d h i j a => opv rfl rfl (by simp [go_sem, a.e 48 (d 24 rfl), a.e 52 (d 28 rfl), IntWalk.i64_in ((mm 2) + (dd 2)) (by omega)]) rfl,
  fun f s W c d h i j a => opc rfl rfl (by simp [go_sem, a.e 44 (d 20 rfl), a.e 53 (d 29 rfl)]) (pubSpan_any ((mm 2)) ((mm 2) + (dd 2)) W),
  fun f s W c d h i j a => opv rfl rfl (by simp [go_sem, a.e 5 k26_5]) rfl,
  fun f s W c d h i j a => opv rfl rfl (by simp [go_sem, a.e 55 (d 31 rfl), cb b26_5 c 0]) rfl,
  fun f s W c d h i j a => by have gf_ := gfv 8; have cv_ := IntWalk.i64_in (fv 8) (by omega); exact opv rfl rfl (by simp [go_sem, a.e 56 (d 32 rfl), cv_]) rfl,
  fun f s W c d h i j a => opv rfl rfl (by simp [go_sem, a.e 57 (d 33 rfl), IntWalk.i64_in (2000 * (fv 8)) (by omega)]) rfl,
  fun f s W c d h i j a => opv rfl rfl (by simp [go_sem, a.e 5 k26_5]) rfl,
  fun f s W c d h i j a => opv rfl rfl (by simp [go_sem, a.e 59 (d 35 rfl), cb b26_5 c 1]) rfl,
  fun f s W c d h i j a => by have gf_ := gfv 9; have cv_ := IntWalk.i64_in (fv 9) (by omega); exact opv rfl rfl (by simp [go_sem, a.e 60 (d 36 rfl), cv_]) rfl,
  fun f s W c d h i j a => opv rfl rfl (by simp [go_sem, a.e 61 (d 37 rfl), IntWalk.i64_in (5 * (fv 9)) (by omega)]) rfl,
  fun f s W c d h i j a => opv rfl rfl (by simp [go_sem, a.e 28 (d 4 rfl), a.e 32 (d 8 rfl), a.e 40 (d 16 rfl), a.e 54 (d 30 rfl), a.e 58 (d 34 rfl), a.e 62 (d 38 rfl)]) rfl,
  fun f s W c d h i j a => opr rfl rfl (by simp [go_sem, a.e 63 (d 39 rfl)]), trivial⟩ ?_
 intro f27 s27 W27 hB27 g27 hg27
 have fB27 := hB27.f fB26
 have z27 := hB27.below.size
 have b27_0 := hB27.b b26_0
 have b27_1 := hB27.b b26_1
 have b27_2 := hB27.b b26_2
 have b27_3 := hB27.b b26_3
 have b27_4 := hB27.b b26_4
 have b27_5 := hB27.b b26_5
 have q43' := (q42'.below hB27.below)
 obtain ⟨r27_40, br27_40⟩ := hB27.is 40
 have lr27_40 := hB27.lr 40 br27_40
 have k27_1 := kt hg27 1 k26_1
 have k27_2 := kt hg27 2 k26_2
 have k27_3 := kt hg27 3 k26_3
 have k27_4 := kt hg27 4 k26_4
 have k27_13 := kt hg27 13 k26_13
 have k27_19 := kt hg27 19 k26_19
 have k27_5 := kt hg27 5 k26_5
 have k27_6 := kt hg27 6 nk2_6
 have k27_25 := kt hg27 25 (hB27.is 1)
 have k27_64 := kt hg27 64 r27_40
 obtain ⟨ga28, ca28, W28, ra28, ow28, ot28, z28, gg28, fB28⟩ := growR_tail 30 30 68 8 64 _ (by kernel_rfl) Try.infoP rfl [.int .i64 1, .int .i64 (80 + (fv 0)), .int .i64 ((lw 0)), .int .i64 ((lw 0) + (tt 0)), .int .i64 ((mm 0)), .int .i64 ((mm 0) + (dd 0)), .int .i64 (2000 * (fv 0)), .int .i64 (5 * (fv 1)), .int .i64 2, .int .i64 (80 + (fv 4)), .int .i64 ((lw 1)), .int .i64 ((lw 1) + (tt 1)), .int .i64 ((mm 1)), .int .i64 ((mm 1) + (dd 1)), .int .i64 (2000 * (fv 4)), .int .i64 (5 * (fv 5)), .int .i64 1, .int .i64 (80 + (fv 8)), .int .i64 ((lw 2)), .int .i64 ((lw 2) + (tt 2)), .int .i64 ((mm 2)), .int .i64 ((mm 2) + (dd 2)), .int .i64 (2000 * (fv 8)), .int .i64 (5 * (fv 9))] 3 (off := 0) (k := 1) (c' := 1) [.int .i64 1, .int .i64 (80 + (fv 8)), .int .i64 ((lw 2)), .int .i64 ((lw 2) + (tt 2)), .int .i64 ((mm 2)), .int .i64 ((mm 2) + (dd 2)), .int .i64 (2000 * (fv 8)), .int .i64 (5 * (fv 9))] fB27 q43' rfl rfl rfl rfl (cells_at br27_40) rfl
 refine tail_value2 (o := _) rfl rfl rfl (run_appendOp (fr_ev k27_25) (fr_ev k27_64) ra28) ?_
 have lo28 := ow28.lim
 have b28_0 := ot28 _ _ (by first | assumption | exact Ne.symm (by assumption) | omega) b27_0
 have b28_1 := ot28 _ _ (by first | assumption | exact Ne.symm (by assumption) | omega) b27_1
 have b28_2 := ot28 _ _ (by first | assumption | exact Ne.symm (by assumption) | omega) b27_2
 have b28_3 := ot28 _ _ (by first | assumption | exact Ne.symm (by assumption) | omega) b27_3
 have b28_4 := ot28 _ _ (by first | assumption | exact Ne.symm (by assumption) | omega) b27_4
 have b28_5 := ot28 _ _ (by first | assumption | exact Ne.symm (by assumption) | omega) b27_5
 generalize hg28 : upd g27 65 (.slice (some ⟨ga28, 0, none⟩) (3) (ca28)) = g28
 have k28_1 := ku hg28 1 k27_1
 have k28_2 := ku hg28 2 k27_2
 have k28_3 := ku hg28 3 k27_3
 have k28_4 := ku hg28 4 k27_4
 have k28_13 := ku hg28 13 k27_13
 have k28_19 := ku hg28 19 k27_19
 have k28_5 := ku hg28 5 k27_5
 have k28_6 := ku hg28 6 k27_6
 have k28_25 := ku hg28 25 k27_25
 have k28_64 := ku hg28 64 k27_64
 have k28_65 := kt hg28 65 (upd_same _ _ _)
 refine tail_value (o := _) rfl rfl rfl (v := .pointer (some ⟨(s2 1), 0, none⟩)) (by simp [go_sem, frv 109 k28_3]) ?_
 generalize hg29 : upd g28 66 (.pointer (some ⟨(s2 1), 0, none⟩)) = g29
 have k29_1 := ku hg29 1 k28_1
 have k29_2 := ku hg29 2 k28_2
 have k29_3 := ku hg29 3 k28_3
 have k29_4 := ku hg29 4 k28_4
 have k29_13 := ku hg29 13 k28_13
 have k29_19 := ku hg29 19 k28_19
 have k29_5 := ku hg29 5 k28_5
 have k29_6 := ku hg29 6 k28_6
 have k29_25 := ku hg29 25 k28_25
 have k29_64 := ku hg29 64 k28_64
 have k29_65 := ku hg29 65 k28_65
 have k29_66 := kt hg29 66 (upd_same _ _ _)
 obtain ⟨W30, hW30⟩ : ∃ W', W' = W28.setRow (s2 1) #[.slice (some ⟨ga28, 0, none⟩) (3) (ca28), .slice (none) (0) (0)] := ⟨_, rfl⟩
 refine tail_skip (o := _) rfl ⟨rfl, rfl⟩ (run_seg hW30 (fr_ev k29_66) (fr_ev k29_65) b28_2 rfl rfl rfl rfl) ?_
 obtain ⟨fB30, nb30, ot30, z30⟩ := seg_facts hW30 fB28 b28_2 (by omega)
 clear hW30
 have b30_0 := ot30 _ _ (by first | assumption | exact Ne.symm (by assumption) | omega) b28_0
 have b30_1 := ot30 _ _ (by first | assumption | exact Ne.symm (by assumption) | omega) b28_1
 have b30_3 := ot30 _ _ (by first | assumption | exact Ne.symm (by assumption) | omega) b28_3
 have b30_4 := ot30 _ _ (by first | assumption | exact Ne.symm (by assumption) | omega) b28_4
 have b30_5 := ot30 _ _ (by first | assumption | exact Ne.symm (by assumption) | omega) b28_5
 have q44' := ow28.other ot30 (ownR_ne ow28 b28_2) z30
 refine wpOps_end ?_
 refine inBlock_normal ?_
 refine hK20 _ _ ?_
 refine region_dk 3 [(14, 0), (15, 1), (4, 2)] [[], [0], [0, 1]] (rel [is (.int .i64 2),
   is (.int .i64 3),
   is (.int .i64 3)])
  ⟨is_k, is_k, is_k, trivial⟩
  ⟨fun f s W c d h i j a => opv rfl rfl (by simp [go_sem, a.e 4 ((i 2 4 rfl rfl).trans k29_4)]) rfl,
  fun f s W c d h i j a => opv rfl rfl (by simp [go_sem, a.e 14 (d 0 rfl), IntWalk.i64_in (3) (by omega)]) rfl,
  fun f s W c d h i j a => opv rfl rfl (by simp [go_sem, a.e 15 (d 1 rfl)]) rfl, trivial⟩ ?_
 intro f31 s31 W31 hB31 g31 hg31
 have fB31 := hB31.f fB30
 have z31 := hB31.below.size
 have b31_0 := hB31.b b30_0
 have b31_1 := hB31.b b30_1
 have b31_2 := hB31.b nb30
 have b31_3 := hB31.b b30_3
 have b31_4 := hB31.b b30_4
 have b31_5 := hB31.b b30_5
 have q45' := (q44'.below hB31.below)
 refine wpOps_end ?_
 have k31_1 := kt hg31 1 k29_1
 have k31_2 := kt hg31 2 k29_2
 have k31_3 := kt hg31 3 k29_3
 have k31_13 := kt hg31 13 k29_13
 have k31_19 := kt hg31 19 k29_19
 have k31_5 := kt hg31 5 k29_5
 have k31_6 := kt hg31 6 k29_6
 have k31_25 := kt hg31 25 k29_25
 have k31_64 := kt hg31 64 k29_64
 have k31_65 := kt hg31 65 k29_65
 have k31_66 := kt hg31 66 k29_66
 have k31_4 := kt hg31 4 (hB31.is 2)
 refine then_normal ?_
 rw [rounds_succ]
 refine wp_seq_k fun K23 hK23 => ?_
 refine wp_seq_k fun K24 hK24 => ?_
 refine region_dk 2 [(12, 0), (13, 1)] [[], [0]] (rel [is (.int .i64 3),
   is (.bool false)])
  ⟨is_k, is_k, trivial⟩
  ⟨fun f s W c d h i j a => opv rfl rfl (by simp [go_sem, a.e 4 k31_4]) rfl,
  fun f s W c d h i j a => opv rfl rfl (by simp [go_sem, a.e 12 (d 0 rfl)]) rfl, trivial⟩ ?_
 intro f32 s32 W32 hB32 g32 hg32
 have fB32 := hB32.f fB31
 have z32 := hB32.below.size
 have b32_0 := hB32.b b31_0
 have b32_1 := hB32.b b31_1
 have b32_2 := hB32.b b31_2
 have b32_3 := hB32.b b31_3
 have b32_4 := hB32.b b31_4
 have b32_5 := hB32.b b31_5
 have q46' := (q45'.below hB32.below)
 refine hK24 _ _ ?_
 have k32_1 := kt hg32 1 k31_1
 have k32_2 := kt hg32 2 k31_2
 have k32_3 := kt hg32 3 k31_3
 have k32_19 := kt hg32 19 k31_19
 have k32_5 := kt hg32 5 k31_5
 have k32_6 := kt hg32 6 k31_6
 have k32_25 := kt hg32 25 k31_25
 have k32_64 := kt hg32 64 k31_64
 have k32_65 := kt hg32 65 k31_65
 have k32_66 := kt hg32 66 k31_66
 have k32_4 := kt hg32 4 k31_4
 have k32_13 := kt hg32 13 (hB32.is 1)
 refine wp_cond_false ((fr_eval rfl).trans k32_13) ?_
 refine wp_exit ?_
 refine then_exit ?_
 refine then_exit ?_
 refine inBlock_at ?_
 refine hK3 _ _ ?_
 refine wp_seq_k fun K26 hK26 => ?_
 refine wp_seq_k fun K27 hK27 => ?_
 refine region_dk 1 [(7, 0)] [[]] (rel [is (.int .i64 0)])
  ⟨is_k, trivial⟩
  ⟨fun f s W c d h i j a => opv rfl rfl (by simp [go_sem]) rfl, trivial⟩ ?_
 intro f33 s33 W33 hB33 g33 hg33
 have fB33 := hB33.f fB32
 have z33 := hB33.below.size
 have b33_0 := hB33.b b32_0
 have b33_1 := hB33.b b32_1
 have b33_2 := hB33.b b32_2
 have b33_3 := hB33.b b32_3
 have b33_4 := hB33.b b32_4
 have b33_5 := hB33.b b32_5
 have q47' := (q46'.below hB33.below)
 refine hK27 _ _ ?_
 have k33_1 := kt hg33 1 k32_1
 have k33_2 := kt hg33 2 k32_2
 have k33_3 := kt hg33 3 k32_3
 have k33_7 := kt hg33 7 (hB33.is 0)
 refine wp_block ?_
 refine wp_loop_rounds 3 ?_
 rw [rounds_succ]
 refine wp_seq_k fun K28 hK28 => ?_
 refine wp_seq_k fun K29 hK29 => ?_
 refine region_dk 2 [(67, 0), (68, 1)] [[], [0]] (rel [is (.int .i64 0),
   is (.bool true)])
  ⟨is_k, is_k, trivial⟩
  ⟨fun f s W c d h i j a => opv rfl rfl (by simp [go_sem, a.e 7 k33_7]) rfl,
  fun f s W c d h i j a => opv rfl rfl (by simp [go_sem, a.e 67 (d 0 rfl)]) rfl, trivial⟩ ?_
 intro f34 s34 W34 hB34 g34 hg34
 have fB34 := hB34.f fB33
 have z34 := hB34.below.size
 have b34_0 := hB34.b b33_0
 have b34_1 := hB34.b b33_1
 have b34_2 := hB34.b b33_2
 have b34_3 := hB34.b b33_3
 have b34_4 := hB34.b b33_4
 have b34_5 := hB34.b b33_5
 have q48' := (q47'.below hB34.below)
 refine hK29 _ _ ?_
 have k34_1 := kt hg34 1 k33_1
 have k34_2 := kt hg34 2 k33_2
 have k34_3 := kt hg34 3 k33_3
 have k34_7 := kt hg34 7 k33_7
 have k34_68 := kt hg34 68 (hB34.is 1)
 refine wp_cond_true ((fr_eval rfl).trans k34_68) ?_
 refine wp_skip ?_
 refine hK28 _ _ ?_
 refine wp_seq_k fun K31 hK31 => ?_
 refine wp_block ?_
 refine wp_seq_k fun K32 hK32 => ?_
 refine region_dk 5 [(71, 0), (72, 1), (73, 2), (74, 3), (8, 4)] [[], [], [0, 1], [0, 1, 2], [], [0, 1, 2, 3, 4]] (rel [is (.int .i64 0),
   is (.pointer (some ⟨(s1 0), 12, none⟩)),
   is (.pointer (some ⟨(s1 0), 12, none⟩)),
   is (.agg #[.int .u8 ((fv 12)), .int .u8 ((fv 13)), .int .u8 ((fv 14))]),
   bx 4 #[.int .u8 0, .int .u8 0, .int .u8 0] 24])
  ⟨is_k, is_k, is_k, is_k, bx_k, trivial⟩
  ⟨fun f s W c d h i j a => opv rfl rfl (by simp [go_sem, a.e 7 k34_7]) rfl,
  fun f s W c d h i j a => opv rfl rfl (by simp [go_sem, a.e 1 k34_1]) rfl,
  fun f s W c d h i j a => opv rfl rfl (by simp [go_sem, a.e 72 (d 1 rfl), a.e 71 (d 0 rfl)]) rfl,
  fun f s W c d h i j a => opv rfl rfl (by simp [go_sem, a.e 73 (d 2 rfl), cb b34_0 c 12, cb b34_0 c 13, cb b34_0 c 14]) rfl,
  fun f s W c d h i j a => opb rfl rfl (by simp [go_sem]), trivial⟩ ?_
 intro f35 s35 W35 hB35 g35 hg35
 have fB35 := hB35.f fB34
 have z35 := hB35.below.size
 have b35_0 := hB35.b b34_0
 have b35_1 := hB35.b b34_1
 have b35_2 := hB35.b b34_2
 have b35_3 := hB35.b b34_3
 have b35_4 := hB35.b b34_4
 have b35_5 := hB35.b b34_5
 have q49' := (q48'.below hB35.below)
 obtain ⟨r35_4, br35_4⟩ := hB35.is 4
 have lr35_4 := hB35.lr 4 br35_4
 have k35_1 := kt hg35 1 k34_1
 have k35_2 := kt hg35 2 k34_2
 have k35_3 := kt hg35 3 k34_3
 have k35_7 := kt hg35 7 k34_7
 have k35_68 := kt hg35 68 k34_68
 have k35_74 := kt hg35 74 (hB35.is 3)
 have k35_8 := kt hg35 8 r35_4
 obtain ⟨W36, hW36⟩ : ∃ W', W' = W35.setRow (s35 4) #[.int .u8 ((fv 12)), .int .u8 ((fv 13)), .int .u8 ((fv 14))] := ⟨_, rfl⟩
 refine tail_skip (o := _) rfl ⟨rfl, rfl⟩ (run_seg hW36 (fr_ev k35_8) (fr_ev k35_74) br35_4 rfl rfl rfl rfl) ?_
 obtain ⟨fB36, nb36, ot36, z36⟩ := seg_facts hW36 fB35 br35_4 (by omega)
 clear hW36
 have b36_0 := ot36 _ _ (by first | assumption | exact Ne.symm (by assumption) | omega) b35_0
 have b36_1 := ot36 _ _ (by first | assumption | exact Ne.symm (by assumption) | omega) b35_1
 have b36_2 := ot36 _ _ (by first | assumption | exact Ne.symm (by assumption) | omega) b35_2
 have b36_3 := ot36 _ _ (by first | assumption | exact Ne.symm (by assumption) | omega) b35_3
 have b36_4 := ot36 _ _ (by first | assumption | exact Ne.symm (by assumption) | omega) b35_4
 have b36_5 := ot36 _ _ (by first | assumption | exact Ne.symm (by assumption) | omega) b35_5
 have q50' := q49'.other ot36 (ownR_ne q49' br35_4) z36
 refine wpOps_end ?_
 refine hK32 _ _ ?_
 refine wp_seq_k fun K33 hK33 => ?_
 refine region_dk 12 [(75, 0), (76, 1), (77, 2), (78, 3), (79, 4), (80, 5), (81, 6), (82, 7), (83, 8), (84, 9), (9, 10), (10, 11)] [[], [0], [0, 1], [0, 1, 2], [0, 1, 2, 3], [], [5], [5, 6], [5, 6, 7], [5, 6, 7, 8], [0, 1, 2, 3, 4], [0, 1, 2, 3, 4, 5, 6, 7, 8, 9, 10]] (rel [is (.pointer (some ⟨(s35 4), 0, none⟩)),
   is (.int .u8 ((fv 12))),
   is (.int .i64 ((fv 12))),
   is (.int .i64 (20 * (fv 12))),
   is (.int .i64 (2000 + (20 * (fv 12)))),
   is (.pointer (some ⟨(s35 4), 1, none⟩)),
   is (.int .u8 ((fv 13))),
   is (.int .i64 ((fv 13))),
   is (.int .i64 (8 * (fv 13))),
   is (.int .i64 (1000 + (8 * (fv 13)))),
   is (.int .i64 (2000 + (20 * (fv 12)))),
   is (.int .i64 (1000 + (8 * (fv 13))))])
  ⟨is_k, is_k, is_k, is_k, is_k, is_k, is_k, is_k, is_k, is_k, is_k, is_k, trivial⟩
  ⟨fun f s W c d h i j a => opv rfl rfl (by simp [go_sem, a.e 8 k35_8]) rfl,
  fun f s W c d h i j a => opv rfl rfl (by simp [go_sem, a.e 75 (d 0 rfl), cb nb36 c 0]) rfl,
  fun f s W c d h i j a => by have gf_ := gfv 12; have cv_ := IntWalk.i64_in (fv 12) (by omega); exact opv rfl rfl (by simp [go_sem, a.e 76 (d 1 rfl), cv_]) rfl,
  fun f s W c d h i j a => opv rfl rfl (by simp [go_sem, a.e 77 (d 2 rfl), IntWalk.i64_in (20 * (fv 12)) (by omega)]) rfl,
  fun f s W c d h i j a => opv rfl rfl (by simp [go_sem, a.e 78 (d 3 rfl), IntWalk.i64_in (2000 + (20 * (fv 12))) (by omega)]) rfl,
  fun f s W c d h i j a => opv rfl rfl (by simp [go_sem, a.e 8 k35_8]) rfl,
  fun f s W c d h i j a => opv rfl rfl (by simp [go_sem, a.e 80 (d 5 rfl), cb nb36 c 1]) rfl,
  fun f s W c d h i j a => by have gf_ := gfv 13; have cv_ := IntWalk.i64_in (fv 13) (by omega); exact opv rfl rfl (by simp [go_sem, a.e 81 (d 6 rfl), cv_]) rfl,
  fun f s W c d h i j a => opv rfl rfl (by simp [go_sem, a.e 82 (d 7 rfl), IntWalk.i64_in (8 * (fv 13)) (by omega)]) rfl,
  fun f s W c d h i j a => opv rfl rfl (by simp [go_sem, a.e 83 (d 8 rfl), IntWalk.i64_in (1000 + (8 * (fv 13))) (by omega)]) rfl,
  fun f s W c d h i j a => opv rfl rfl (by simp [go_sem, a.e 79 (d 4 rfl)]) rfl,
  fun f s W c d h i j a => opv rfl rfl (by simp [go_sem, a.e 84 (d 9 rfl)]) rfl, trivial⟩ ?_
 intro f37 s37 W37 hB37 g37 hg37
 have fB37 := hB37.f fB36
 have z37 := hB37.below.size
 have b37_0 := hB37.b b36_0
 have b37_1 := hB37.b b36_1
 have b37_2 := hB37.b b36_2
 have b37_3 := hB37.b b36_3
 have b37_4 := hB37.b b36_4
 have b37_5 := hB37.b b36_5
 have b37_6 := hB37.b nb36
 have q51' := (q50'.below hB37.below)
 refine hK33 _ _ ?_
 have k37_1 := kt hg37 1 k35_1
 have k37_2 := kt hg37 2 k35_2
 have k37_3 := kt hg37 3 k35_3
 have k37_7 := kt hg37 7 k35_7
 have k37_68 := kt hg37 68 k35_68
 have k37_74 := kt hg37 74 k35_74
 have k37_8 := kt hg37 8 k35_8
 have k37_9 := kt hg37 9 (hB37.is 10)
 have k37_10 := kt hg37 10 (hB37.is 11)
 have nk0_9 : g37 9 = .int .i64 (pc 0) := k37_9.trans (by rw [hpc0])
 have nk0_10 : g37 10 = .int .i64 (hg 0) := k37_10.trans (by rw [hhg0])
 refine region_dk 21 [(85, 0), (86, 1), (87, 2), (88, 3), (89, 4), (90, 5), (91, 6), (92, 7), (93, 8), (94, 9), (95, 10), (96, 11), (97, 12), (98, 13), (99, 14), (100, 15), (101, 16), (102, 17), (103, 18), (104, 19), (105, 20), (106, 21), (107, 22)] [[], [0], [], [], [], [], [5], [5, 6], [4, 5, 6, 7], [4, 5, 6, 7, 8], [3, 4, 5, 6, 7, 8, 9], [], [], [], [13], [13, 14], [13, 14, 15], [12, 13, 14, 15, 16], [11, 12, 13, 14, 15, 16, 17], [2, 3, 4, 5, 6, 7, 8, 9, 10, 11, 12, 13, 14, 15, 16, 17, 18], [2, 3, 4, 5, 6, 7, 8, 9, 10, 11, 12, 13, 14, 15, 16, 17, 18, 19], [0, 1, 2, 3, 4, 5, 6, 7, 8, 9, 10, 11, 12, 13, 14, 15, 16, 17, 18, 19, 20], [0, 1, 2, 3, 4, 5, 6, 7, 8, 9, 10, 11, 12, 13, 14, 15, 16, 17, 18, 19, 20, 21], [0, 1, 2, 3, 4, 5, 6, 7, 8, 9, 10, 11, 12, 13, 14, 15, 16, 17, 18, 19, 20, 21, 22]] (rel [is (.pointer (some ⟨(s2 1), 1, none⟩)),
   is (.slice (none) (0) (0)),
   is (.int .i64 ((pc 0))),
   is (.int .i64 ((pc 0))),
   is (.int .i64 ((pc 0))),
   is (.pointer (some ⟨(s35 4), 2, none⟩)),
   is (.int .u8 ((fv 14))),
   is (.int .i64 ((fv 14))),
   is (.int .i64 ((pc 0) * (fv 14))),
   is (.int .i64 ((ee 0))),
   is (.int .i64 ((pc 0) + (ee 0))),
   is (.int .i64 ((hg 0))),
   is (.int .i64 ((hg 0))),
   is (.pointer (some ⟨(s35 4), 2, none⟩)),
   is (.int .u8 ((fv 14))),
   is (.int .i64 ((fv 14))),
   is (.int .i64 ((uu 0))),
   is (.int .i64 ((hg 0) + (uu 0))),
   is (.agg #[.int .i64 ((hg 0)), .int .i64 ((hg 0) + (uu 0))]),
   is (.agg #[.int .i64 ((pc 0)), .int .i64 ((pc 0) + (ee 0)), .int .i64 ((hg 0)), .int .i64 ((hg 0) + (uu 0))]),
   row 20 1 #[.int .i64 ((pc 0)), .int .i64 ((pc 0) + (ee 0)), .int .i64 ((hg 0)), .int .i64 ((hg 0) + (uu 0))] 70])
  ⟨is_k, is_k, is_k, is_k, is_k, is_k, is_k, is_k, is_k, is_k, is_k, is_k, is_k, is_k, is_k, is_k, is_k, is_k, is_k, is_k, row_k, trivial⟩
  ⟨fun f s W c d h i j a => opv rfl rfl (by simp [go_sem, a.e 3 k37_3]) rfl,
  fun f s W c d h i j a => opv rfl rfl (by simp [go_sem, a.e 85 (d 0 rfl), cb b37_2 c 1]) rfl,
  fun f s W c d h i j a => opv rfl rfl (by simp [go_sem, a.e 9 nk0_9]) rfl,
  fun f s W c d h i j a => opv rfl rfl (by simp [go_sem, a.e 9 nk0_9]) rfl,
  fun f s W c d h i j a => opv rfl rfl (by simp [go_sem, a.e 9 nk0_9]) rfl,
  fun f s W c d h i j a => opv rfl rfl (by simp [go_sem, a.e 8 k37_8]) rfl,
  fun f s W c d h i j a => opv rfl rfl (by simp [go_sem, a.e 90 (d 5 rfl), cb b37_6 c 2]) rfl,
  fun f s W c d h i j a => by have gf_ := gfv 14; have cv_ := IntWalk.i64_in (fv 14) (by omega); exact opv rfl rfl (by simp [go_sem, a.e 91 (d 6 rfl), cv_]) rfl,
  fun f s W c d h i j a => opv rfl rfl (by simp [go_sem, a.e 89 (d 4 rfl), a.e 92 (d 7 rfl), IntWalk.i64_in ((pc 0) * (fv 14)) (by rw [hpr0]; omega)]) rfl,
  fun f s W c d h i j a => by have qu_ : ((pc 0) * (fv 14)).tdiv 400 = ee 0 := (Int.tdiv_eq_ediv_of_nonneg (by rw [hpr0]; exact gpr0.1)).trans hee0; have qw_ := IntWalk.i64_in (ee 0) (by omega); exact opv rfl rfl (by simp [go_sem, a.e 93 (d 8 rfl), qu_, qw_]) rfl,
  fun f s W c d h i j a => opv rfl rfl (by simp [go_sem, a.e 88 (d 3 rfl), a.e 94 (d 9 rfl), IntWalk.i64_in ((pc 0) + (ee 0)) (by omega)]) rfl,
  fun f s W c d h i j a => opv rfl rfl (by simp [go_sem, a.e 10 nk0_10]) rfl,
  fun f s W c d h i j a => opv rfl rfl (by simp [go_sem, a.e 10 nk0_10]) rfl,
  fun f s W c d h i j a => opv rfl rfl (by simp [go_sem, a.e 8 k37_8]) rfl,
  fun f s W c d h i j a => opv rfl rfl (by simp [go_sem, a.e 98 (d 13 rfl), cb b37_6 c 2]) rfl,
  fun f s W c d h i j a => by have gf_ := gfv 14; have cv_ := IntWalk.i64_in (fv 14) (by omega); exact opv rfl rfl (by simp [go_sem, a.e 99 (d 14 rfl), cv_]) rfl,
  fun f s W c d h i j a => by have gf_ := gfv 14; have qu_ : ((fv 14)).tmod 200 = uu 0 := (Int.tmod_eq_emod_of_nonneg (by omega)).trans huu0; have qw_ := IntWalk.i64_in (uu 0) (by omega); exact opv rfl rfl (by simp [go_sem, a.e 100 (d 15 rfl), qu_, qw_]) rfl,
  fun f s W c d h i j a => opv rfl rfl (by simp [go_sem, a.e 97 (d 12 rfl), a.e 101 (d 16 rfl), IntWalk.i64_in ((hg 0) + (uu 0)) (by omega)]) rfl,
  fun f s W c d h i j a => opc rfl rfl (by simp [go_sem, a.e 96 (d 11 rfl), a.e 102 (d 17 rfl)]) (pubSpan_any ((hg 0)) ((hg 0) + (uu 0)) W),
  fun f s W c d h i j a => opv rfl rfl (by simp [go_sem, a.e 87 (d 2 rfl), a.e 95 (d 10 rfl), a.e 103 (d 18 rfl)]) rfl,
  fun f s W c d h i j a => opr rfl rfl (by simp [go_sem, a.e 104 (d 19 rfl)]), trivial⟩ ?_
 intro f38 s38 W38 hB38 g38 hg38
 have fB38 := hB38.f fB37
 have z38 := hB38.below.size
 have b38_0 := hB38.b b37_0
 have b38_1 := hB38.b b37_1
 have b38_2 := hB38.b b37_2
 have b38_3 := hB38.b b37_3
 have b38_4 := hB38.b b37_4
 have b38_5 := hB38.b b37_5
 have b38_6 := hB38.b b37_6
 have q52' := (q51'.below hB38.below)
 obtain ⟨r38_20, br38_20⟩ := hB38.is 20
 have lr38_20 := hB38.lr 20 br38_20
 have k38_1 := kt hg38 1 k37_1
 have k38_2 := kt hg38 2 k37_2
 have k38_3 := kt hg38 3 k37_3
 have k38_7 := kt hg38 7 k37_7
 have k38_68 := kt hg38 68 k37_68
 have k38_74 := kt hg38 74 k37_74
 have k38_8 := kt hg38 8 k37_8
 have k38_9 := kt hg38 9 nk0_9
 have k38_10 := kt hg38 10 nk0_10
 have k38_86 := kt hg38 86 (hB38.is 1)
 have k38_105 := kt hg38 105 r38_20
 obtain ⟨ga39, ca39, W39, ra39, ow39, ot39, z39, gg39, fB39⟩ := growR_nil 31 31 70 4 32 _ (by kernel_rfl) Try.infoF rfl 1 (off := 0) (k := 1) (c' := 1) [.int .i64 ((pc 0)), .int .i64 ((pc 0) + (ee 0)), .int .i64 ((hg 0)), .int .i64 ((hg 0) + (uu 0))] fB38 rfl rfl rfl (cells_at br38_20) rfl
 refine tail_value2 (o := _) rfl rfl rfl (run_appendOp (fr_ev k38_86) (fr_ev k38_105) ra39) ?_
 have lo39 := ow39.lim
 have b39_0 := ot39 _ _ (by first | assumption | exact Ne.symm (by assumption) | omega) b38_0
 have b39_1 := ot39 _ _ (by first | assumption | exact Ne.symm (by assumption) | omega) b38_1
 have b39_2 := ot39 _ _ (by first | assumption | exact Ne.symm (by assumption) | omega) b38_2
 have b39_3 := ot39 _ _ (by first | assumption | exact Ne.symm (by assumption) | omega) b38_3
 have b39_4 := ot39 _ _ (by first | assumption | exact Ne.symm (by assumption) | omega) b38_4
 have b39_5 := ot39 _ _ (by first | assumption | exact Ne.symm (by assumption) | omega) b38_5
 have b39_6 := ot39 _ _ (by first | assumption | exact Ne.symm (by assumption) | omega) b38_6
 have q53' := q52'.other ot39 (by first | assumption | exact Ne.symm (by assumption) | omega) z39
 generalize hg39 : upd g38 106 (.slice (some ⟨ga39, 0, none⟩) (1) (ca39)) = g39
 have k39_1 := ku hg39 1 k38_1
 have k39_2 := ku hg39 2 k38_2
 have k39_3 := ku hg39 3 k38_3
 have k39_7 := ku hg39 7 k38_7
 have k39_68 := ku hg39 68 k38_68
 have k39_74 := ku hg39 74 k38_74
 have k39_8 := ku hg39 8 k38_8
 have k39_9 := ku hg39 9 k38_9
 have k39_10 := ku hg39 10 k38_10
 have k39_86 := ku hg39 86 k38_86
 have k39_105 := ku hg39 105 k38_105
 have k39_106 := kt hg39 106 (upd_same _ _ _)
 refine tail_value (o := _) rfl rfl rfl (v := .pointer (some ⟨(s2 1), 1, none⟩)) (by simp [go_sem, frv 109 k39_3]) ?_
 generalize hg40 : upd g39 107 (.pointer (some ⟨(s2 1), 1, none⟩)) = g40
 have k40_1 := ku hg40 1 k39_1
 have k40_2 := ku hg40 2 k39_2
 have k40_3 := ku hg40 3 k39_3
 have k40_7 := ku hg40 7 k39_7
 have k40_68 := ku hg40 68 k39_68
 have k40_74 := ku hg40 74 k39_74
 have k40_8 := ku hg40 8 k39_8
 have k40_9 := ku hg40 9 k39_9
 have k40_10 := ku hg40 10 k39_10
 have k40_86 := ku hg40 86 k39_86
 have k40_105 := ku hg40 105 k39_105
 have k40_106 := ku hg40 106 k39_106
 have k40_107 := kt hg40 107 (upd_same _ _ _)
 obtain ⟨W41, hW41⟩ : ∃ W', W' = W39.setRow (s2 1) #[.slice (some ⟨ga28, 0, none⟩) (3) (ca28), .slice (some ⟨ga39, 0, none⟩) (1) (ca39)] := ⟨_, rfl⟩
 refine tail_skip (o := _) rfl ⟨rfl, rfl⟩ (run_seg hW41 (fr_ev k40_107) (fr_ev k40_106) b39_2 rfl rfl rfl rfl) ?_
 obtain ⟨fB41, nb41, ot41, z41⟩ := seg_facts hW41 fB39 b39_2 (by omega)
 clear hW41
 have b41_0 := ot41 _ _ (by first | assumption | exact Ne.symm (by assumption) | omega) b39_0
 have b41_1 := ot41 _ _ (by first | assumption | exact Ne.symm (by assumption) | omega) b39_1
 have b41_3 := ot41 _ _ (by first | assumption | exact Ne.symm (by assumption) | omega) b39_3
 have b41_4 := ot41 _ _ (by first | assumption | exact Ne.symm (by assumption) | omega) b39_4
 have b41_5 := ot41 _ _ (by first | assumption | exact Ne.symm (by assumption) | omega) b39_5
 have b41_6 := ot41 _ _ (by first | assumption | exact Ne.symm (by assumption) | omega) b39_6
 have q54' := q53'.other ot41 (ownR_ne q53' b39_2) z41
 have q55' := ow39.other ot41 (ownR_ne ow39 b39_2) z41
 refine wpOps_end ?_
 refine inBlock_normal ?_
 refine hK31 _ _ ?_
 refine region_dk 3 [(69, 0), (70, 1), (7, 2)] [[], [0], [0, 1]] (rel [is (.int .i64 0),
   is (.int .i64 1),
   is (.int .i64 1)])
  ⟨is_k, is_k, is_k, trivial⟩
  ⟨fun f s W c d h i j a => opv rfl rfl (by simp [go_sem, a.e 7 ((i 2 7 rfl rfl).trans k40_7)]) rfl,
  fun f s W c d h i j a => opv rfl rfl (by simp [go_sem, a.e 69 (d 0 rfl), IntWalk.i64_in (1) (by omega)]) rfl,
  fun f s W c d h i j a => opv rfl rfl (by simp [go_sem, a.e 70 (d 1 rfl)]) rfl, trivial⟩ ?_
 intro f42 s42 W42 hB42 g42 hg42
 have fB42 := hB42.f fB41
 have z42 := hB42.below.size
 have b42_0 := hB42.b b41_0
 have b42_1 := hB42.b b41_1
 have b42_2 := hB42.b nb41
 have b42_3 := hB42.b b41_3
 have b42_4 := hB42.b b41_4
 have b42_5 := hB42.b b41_5
 have b42_6 := hB42.b b41_6
 have q56' := (q54'.below hB42.below)
 have q57' := (q55'.below hB42.below)
 refine wpOps_end ?_
 have k42_1 := kt hg42 1 k40_1
 have k42_2 := kt hg42 2 k40_2
 have k42_3 := kt hg42 3 k40_3
 have k42_68 := kt hg42 68 k40_68
 have k42_74 := kt hg42 74 k40_74
 have k42_8 := kt hg42 8 k40_8
 have k42_9 := kt hg42 9 k40_9
 have k42_10 := kt hg42 10 k40_10
 have k42_86 := kt hg42 86 k40_86
 have k42_105 := kt hg42 105 k40_105
 have k42_106 := kt hg42 106 k40_106
 have k42_107 := kt hg42 107 k40_107
 have k42_7 := kt hg42 7 (hB42.is 2)
 refine then_normal ?_
 rw [rounds_succ]
 refine wp_seq_k fun K34 hK34 => ?_
 refine wp_seq_k fun K35 hK35 => ?_
 refine region_dk 2 [(67, 0), (68, 1)] [[], [0]] (rel [is (.int .i64 1),
   is (.bool true)])
  ⟨is_k, is_k, trivial⟩
  ⟨fun f s W c d h i j a => opv rfl rfl (by simp [go_sem, a.e 7 k42_7]) rfl,
  fun f s W c d h i j a => opv rfl rfl (by simp [go_sem, a.e 67 (d 0 rfl)]) rfl, trivial⟩ ?_
 intro f43 s43 W43 hB43 g43 hg43
 have fB43 := hB43.f fB42
 have z43 := hB43.below.size
 have b43_0 := hB43.b b42_0
 have b43_1 := hB43.b b42_1
 have b43_2 := hB43.b b42_2
 have b43_3 := hB43.b b42_3
 have b43_4 := hB43.b b42_4
 have b43_5 := hB43.b b42_5
 have b43_6 := hB43.b b42_6
 have q58' := (q56'.below hB43.below)
 have q59' := (q57'.below hB43.below)
 refine hK35 _ _ ?_
 have k43_1 := kt hg43 1 k42_1
 have k43_2 := kt hg43 2 k42_2
 have k43_3 := kt hg43 3 k42_3
 have k43_74 := kt hg43 74 k42_74
 have k43_8 := kt hg43 8 k42_8
 have k43_9 := kt hg43 9 k42_9
 have k43_10 := kt hg43 10 k42_10
 have k43_86 := kt hg43 86 k42_86
 have k43_105 := kt hg43 105 k42_105
 have k43_106 := kt hg43 106 k42_106
 have k43_107 := kt hg43 107 k42_107
 have k43_7 := kt hg43 7 k42_7
 have k43_68 := kt hg43 68 (hB43.is 1)
 refine wp_cond_true ((fr_eval rfl).trans k43_68) ?_
 refine wp_skip ?_
 refine hK34 _ _ ?_
 refine wp_seq_k fun K37 hK37 => ?_
 refine wp_block ?_
 refine wp_seq_k fun K38 hK38 => ?_
 refine region_dk 5 [(71, 0), (72, 1), (73, 2), (74, 3), (8, 4)] [[], [], [0, 1], [0, 1, 2], [], [0, 1, 2, 3, 4]] (rel [is (.int .i64 1),
   is (.pointer (some ⟨(s1 0), 12, none⟩)),
   is (.pointer (some ⟨(s1 0), 15, none⟩)),
   is (.agg #[.int .u8 ((fv 15)), .int .u8 ((fv 16)), .int .u8 ((fv 17))]),
   bx 4 #[.int .u8 0, .int .u8 0, .int .u8 0] 24])
  ⟨is_k, is_k, is_k, is_k, bx_k, trivial⟩
  ⟨fun f s W c d h i j a => opv rfl rfl (by simp [go_sem, a.e 7 k43_7]) rfl,
  fun f s W c d h i j a => opv rfl rfl (by simp [go_sem, a.e 1 k43_1]) rfl,
  fun f s W c d h i j a => opv rfl rfl (by simp [go_sem, a.e 72 (d 1 rfl), a.e 71 (d 0 rfl)]) rfl,
  fun f s W c d h i j a => opv rfl rfl (by simp [go_sem, a.e 73 (d 2 rfl), cb b43_0 c 15, cb b43_0 c 16, cb b43_0 c 17]) rfl,
  fun f s W c d h i j a => opb rfl rfl (by simp [go_sem]), trivial⟩ ?_
 intro f44 s44 W44 hB44 g44 hg44
 have fB44 := hB44.f fB43
 have z44 := hB44.below.size
 have b44_0 := hB44.b b43_0
 have b44_1 := hB44.b b43_1
 have b44_2 := hB44.b b43_2
 have b44_3 := hB44.b b43_3
 have b44_4 := hB44.b b43_4
 have b44_5 := hB44.b b43_5
 have b44_6 := hB44.b b43_6
 have q60' := (q58'.below hB44.below)
 have q61' := (q59'.below hB44.below)
 obtain ⟨r44_4, br44_4⟩ := hB44.is 4
 have lr44_4 := hB44.lr 4 br44_4
 have k44_1 := kt hg44 1 k43_1
 have k44_2 := kt hg44 2 k43_2
 have k44_3 := kt hg44 3 k43_3
 have k44_9 := kt hg44 9 k43_9
 have k44_10 := kt hg44 10 k43_10
 have k44_86 := kt hg44 86 k43_86
 have k44_105 := kt hg44 105 k43_105
 have k44_106 := kt hg44 106 k43_106
 have k44_107 := kt hg44 107 k43_107
 have k44_7 := kt hg44 7 k43_7
 have k44_68 := kt hg44 68 k43_68
 have k44_74 := kt hg44 74 (hB44.is 3)
 have k44_8 := kt hg44 8 r44_4
 obtain ⟨W45, hW45⟩ : ∃ W', W' = W44.setRow (s44 4) #[.int .u8 ((fv 15)), .int .u8 ((fv 16)), .int .u8 ((fv 17))] := ⟨_, rfl⟩
 refine tail_skip (o := _) rfl ⟨rfl, rfl⟩ (run_seg hW45 (fr_ev k44_8) (fr_ev k44_74) br44_4 rfl rfl rfl rfl) ?_
 obtain ⟨fB45, nb45, ot45, z45⟩ := seg_facts hW45 fB44 br44_4 (by omega)
 clear hW45
 have b45_0 := ot45 _ _ (by first | assumption | exact Ne.symm (by assumption) | omega) b44_0
 have b45_1 := ot45 _ _ (by first | assumption | exact Ne.symm (by assumption) | omega) b44_1
 have b45_2 := ot45 _ _ (by first | assumption | exact Ne.symm (by assumption) | omega) b44_2
 have b45_3 := ot45 _ _ (by first | assumption | exact Ne.symm (by assumption) | omega) b44_3
 have b45_4 := ot45 _ _ (by first | assumption | exact Ne.symm (by assumption) | omega) b44_4
 have b45_5 := ot45 _ _ (by first | assumption | exact Ne.symm (by assumption) | omega) b44_5
 have b45_6 := ot45 _ _ (by first | assumption | exact Ne.symm (by assumption) | omega) b44_6
 have q62' := q60'.other ot45 (ownR_ne q60' br44_4) z45
 have q63' := q61'.other ot45 (ownR_ne q61' br44_4) z45
 refine wpOps_end ?_
 refine hK38 _ _ ?_
 refine wp_seq_k fun K39 hK39 => ?_
 refine region_dk 12 [(75, 0), (76, 1), (77, 2), (78, 3), (79, 4), (80, 5), (81, 6), (82, 7), (83, 8), (84, 9), (9, 10), (10, 11)] [[], [0], [0, 1], [0, 1, 2], [0, 1, 2, 3], [], [5], [5, 6], [5, 6, 7], [5, 6, 7, 8], [0, 1, 2, 3, 4], [0, 1, 2, 3, 4, 5, 6, 7, 8, 9, 10]] (rel [is (.pointer (some ⟨(s44 4), 0, none⟩)),
   is (.int .u8 ((fv 15))),
   is (.int .i64 ((fv 15))),
   is (.int .i64 (20 * (fv 15))),
   is (.int .i64 (2000 + (20 * (fv 15)))),
   is (.pointer (some ⟨(s44 4), 1, none⟩)),
   is (.int .u8 ((fv 16))),
   is (.int .i64 ((fv 16))),
   is (.int .i64 (8 * (fv 16))),
   is (.int .i64 (1000 + (8 * (fv 16)))),
   is (.int .i64 (2000 + (20 * (fv 15)))),
   is (.int .i64 (1000 + (8 * (fv 16))))])
  ⟨is_k, is_k, is_k, is_k, is_k, is_k, is_k, is_k, is_k, is_k, is_k, is_k, trivial⟩
  ⟨fun f s W c d h i j a => opv rfl rfl (by simp [go_sem, a.e 8 k44_8]) rfl,
  fun f s W c d h i j a => opv rfl rfl (by simp [go_sem, a.e 75 (d 0 rfl), cb nb45 c 0]) rfl,
  fun f s W c d h i j a => by have gf_ := gfv 15; have cv_ := IntWalk.i64_in (fv 15) (by omega); exact opv rfl rfl (by simp [go_sem, a.e 76 (d 1 rfl), cv_]) rfl,
  fun f s W c d h i j a => opv rfl rfl (by simp [go_sem, a.e 77 (d 2 rfl), IntWalk.i64_in (20 * (fv 15)) (by omega)]) rfl,
  fun f s W c d h i j a => opv rfl rfl (by simp [go_sem, a.e 78 (d 3 rfl), IntWalk.i64_in (2000 + (20 * (fv 15))) (by omega)]) rfl,
  fun f s W c d h i j a => opv rfl rfl (by simp [go_sem, a.e 8 k44_8]) rfl,
  fun f s W c d h i j a => opv rfl rfl (by simp [go_sem, a.e 80 (d 5 rfl), cb nb45 c 1]) rfl,
  fun f s W c d h i j a => by have gf_ := gfv 16; have cv_ := IntWalk.i64_in (fv 16) (by omega); exact opv rfl rfl (by simp [go_sem, a.e 81 (d 6 rfl), cv_]) rfl,
  fun f s W c d h i j a => opv rfl rfl (by simp [go_sem, a.e 82 (d 7 rfl), IntWalk.i64_in (8 * (fv 16)) (by omega)]) rfl,
  fun f s W c d h i j a => opv rfl rfl (by simp [go_sem, a.e 83 (d 8 rfl), IntWalk.i64_in (1000 + (8 * (fv 16))) (by omega)]) rfl,
  fun f s W c d h i j a => opv rfl rfl (by simp [go_sem, a.e 79 (d 4 rfl)]) rfl,
  fun f s W c d h i j a => opv rfl rfl (by simp [go_sem, a.e 84 (d 9 rfl)]) rfl, trivial⟩ ?_
 intro f46 s46 W46 hB46 g46 hg46
 have fB46 := hB46.f fB45
 have z46 := hB46.below.size
 have b46_0 := hB46.b b45_0
 have b46_1 := hB46.b b45_1
 have b46_2 := hB46.b b45_2
 have b46_3 := hB46.b b45_3
 have b46_4 := hB46.b b45_4
 have b46_5 := hB46.b b45_5
 have b46_6 := hB46.b b45_6
 have b46_7 := hB46.b nb45
 have q64' := (q62'.below hB46.below)
 have q65' := (q63'.below hB46.below)
 refine hK39 _ _ ?_
 have k46_1 := kt hg46 1 k44_1
 have k46_2 := kt hg46 2 k44_2
 have k46_3 := kt hg46 3 k44_3
 have k46_86 := kt hg46 86 k44_86
 have k46_105 := kt hg46 105 k44_105
 have k46_106 := kt hg46 106 k44_106
 have k46_107 := kt hg46 107 k44_107
 have k46_7 := kt hg46 7 k44_7
 have k46_68 := kt hg46 68 k44_68
 have k46_74 := kt hg46 74 k44_74
 have k46_8 := kt hg46 8 k44_8
 have k46_9 := kt hg46 9 (hB46.is 10)
 have k46_10 := kt hg46 10 (hB46.is 11)
 have nk1_9 : g46 9 = .int .i64 (pc 1) := k46_9.trans (by rw [hpc1])
 have nk1_10 : g46 10 = .int .i64 (hg 1) := k46_10.trans (by rw [hhg1])
 refine region_dk 21 [(85, 0), (86, 1), (87, 2), (88, 3), (89, 4), (90, 5), (91, 6), (92, 7), (93, 8), (94, 9), (95, 10), (96, 11), (97, 12), (98, 13), (99, 14), (100, 15), (101, 16), (102, 17), (103, 18), (104, 19), (105, 20), (106, 21), (107, 22)] [[], [0], [], [], [], [], [5], [5, 6], [4, 5, 6, 7], [4, 5, 6, 7, 8], [3, 4, 5, 6, 7, 8, 9], [], [], [], [13], [13, 14], [13, 14, 15], [12, 13, 14, 15, 16], [11, 12, 13, 14, 15, 16, 17], [2, 3, 4, 5, 6, 7, 8, 9, 10, 11, 12, 13, 14, 15, 16, 17, 18], [2, 3, 4, 5, 6, 7, 8, 9, 10, 11, 12, 13, 14, 15, 16, 17, 18, 19], [0, 1, 2, 3, 4, 5, 6, 7, 8, 9, 10, 11, 12, 13, 14, 15, 16, 17, 18, 19, 20], [0, 1, 2, 3, 4, 5, 6, 7, 8, 9, 10, 11, 12, 13, 14, 15, 16, 17, 18, 19, 20, 21], [0, 1, 2, 3, 4, 5, 6, 7, 8, 9, 10, 11, 12, 13, 14, 15, 16, 17, 18, 19, 20, 21, 22]] (rel [is (.pointer (some ⟨(s2 1), 1, none⟩)),
   is (.slice (some ⟨ga39, 0, none⟩) (1) (ca39)),
   is (.int .i64 ((pc 1))),
   is (.int .i64 ((pc 1))),
   is (.int .i64 ((pc 1))),
   is (.pointer (some ⟨(s44 4), 2, none⟩)),
   is (.int .u8 ((fv 17))),
   is (.int .i64 ((fv 17))),
   is (.int .i64 ((pc 1) * (fv 17))),
   is (.int .i64 ((ee 1))),
   is (.int .i64 ((pc 1) + (ee 1))),
   is (.int .i64 ((hg 1))),
   is (.int .i64 ((hg 1))),
   is (.pointer (some ⟨(s44 4), 2, none⟩)),
   is (.int .u8 ((fv 17))),
   is (.int .i64 ((fv 17))),
   is (.int .i64 ((uu 1))),
   is (.int .i64 ((hg 1) + (uu 1))),
   is (.agg #[.int .i64 ((hg 1)), .int .i64 ((hg 1) + (uu 1))]),
   is (.agg #[.int .i64 ((pc 1)), .int .i64 ((pc 1) + (ee 1)), .int .i64 ((hg 1)), .int .i64 ((hg 1) + (uu 1))]),
   row 20 1 #[.int .i64 ((pc 1)), .int .i64 ((pc 1) + (ee 1)), .int .i64 ((hg 1)), .int .i64 ((hg 1) + (uu 1))] 70])
  ⟨is_k, is_k, is_k, is_k, is_k, is_k, is_k, is_k, is_k, is_k, is_k, is_k, is_k, is_k, is_k, is_k, is_k, is_k, is_k, is_k, row_k, trivial⟩
  ⟨fun f s W c d h i j a => opv rfl rfl (by simp [go_sem, a.e 3 k46_3]) rfl,
  fun f s W c d h i j a => opv rfl rfl (by simp [go_sem, a.e 85 (d 0 rfl), cb b46_2 c 1]) rfl,
  fun f s W c d h i j a => opv rfl rfl (by simp [go_sem, a.e 9 nk1_9]) rfl,
  fun f s W c d h i j a => opv rfl rfl (by simp [go_sem, a.e 9 nk1_9]) rfl,
  fun f s W c d h i j a => opv rfl rfl (by simp [go_sem, a.e 9 nk1_9]) rfl,
  fun f s W c d h i j a => opv rfl rfl (by simp [go_sem, a.e 8 k46_8]) rfl,
  fun f s W c d h i j a => opv rfl rfl (by simp [go_sem, a.e 90 (d 5 rfl), cb b46_7 c 2]) rfl,
  fun f s W c d h i j a => by have gf_ := gfv 17; have cv_ := IntWalk.i64_in (fv 17) (by omega); exact opv rfl rfl (by simp [go_sem, a.e 91 (d 6 rfl), cv_]) rfl,
  fun f s W c d h i j a => opv rfl rfl (by simp [go_sem, a.e 89 (d 4 rfl), a.e 92 (d 7 rfl), IntWalk.i64_in ((pc 1) * (fv 17)) (by rw [hpr1]; omega)]) rfl,
  fun f s W c d h i j a => by have qu_ : ((pc 1) * (fv 17)).tdiv 400 = ee 1 := (Int.tdiv_eq_ediv_of_nonneg (by rw [hpr1]; exact gpr1.1)).trans hee1; have qw_ := IntWalk.i64_in (ee 1) (by omega); exact opv rfl rfl (by simp [go_sem, a.e 93 (d 8 rfl), qu_, qw_]) rfl,
  fun f s W c d h i j a => opv rfl rfl (by simp [go_sem, a.e 88 (d 3 rfl), a.e 94 (d 9 rfl), IntWalk.i64_in ((pc 1) + (ee 1)) (by omega)]) rfl,
  fun f s W c d h i j a => opv rfl rfl (by simp [go_sem, a.e 10 nk1_10]) rfl,
  fun f s W c d h i j a => opv rfl rfl (by simp [go_sem, a.e 10 nk1_10]) rfl,
  fun f s W c d h i j a => opv rfl rfl (by simp [go_sem, a.e 8 k46_8]) rfl,
  fun f s W c d h i j a => opv rfl rfl (by simp [go_sem, a.e 98 (d 13 rfl), cb b46_7 c 2]) rfl,
  fun f s W c d h i j a => by have gf_ := gfv 17; have cv_ := IntWalk.i64_in (fv 17) (by omega); exact opv rfl rfl (by simp [go_sem, a.e 99 (d 14 rfl), cv_]) rfl,
  fun f s W c d h i j a => by have gf_ := gfv 17; have qu_ : ((fv 17)).tmod 200 = uu 1 := (Int.tmod_eq_emod_of_nonneg (by omega)).trans huu1; have qw_ := IntWalk.i64_in (uu 1) (by omega); exact opv rfl rfl (by simp [go_sem, a.e 100 (d 15 rfl), qu_, qw_]) rfl,
  fun f s W c d h i j a => opv rfl rfl (by simp [go_sem, a.e 97 (d 12 rfl), a.e 101 (d 16 rfl), IntWalk.i64_in ((hg 1) + (uu 1)) (by omega)]) rfl,
  fun f s W c d h i j a => opc rfl rfl (by simp [go_sem, a.e 96 (d 11 rfl), a.e 102 (d 17 rfl)]) (pubSpan_any ((hg 1)) ((hg 1) + (uu 1)) W),
  fun f s W c d h i j a => opv rfl rfl (by simp [go_sem, a.e 87 (d 2 rfl), a.e 95 (d 10 rfl), a.e 103 (d 18 rfl)]) rfl,
  fun f s W c d h i j a => opr rfl rfl (by simp [go_sem, a.e 104 (d 19 rfl)]), trivial⟩ ?_
 intro f47 s47 W47 hB47 g47 hg47
 have fB47 := hB47.f fB46
 have z47 := hB47.below.size
 have b47_0 := hB47.b b46_0
 have b47_1 := hB47.b b46_1
 have b47_2 := hB47.b b46_2
 have b47_3 := hB47.b b46_3
 have b47_4 := hB47.b b46_4
 have b47_5 := hB47.b b46_5
 have b47_6 := hB47.b b46_6
 have b47_7 := hB47.b b46_7
 have q66' := (q64'.below hB47.below)
 have q67' := (q65'.below hB47.below)
 obtain ⟨r47_20, br47_20⟩ := hB47.is 20
 have lr47_20 := hB47.lr 20 br47_20
 have k47_1 := kt hg47 1 k46_1
 have k47_2 := kt hg47 2 k46_2
 have k47_3 := kt hg47 3 k46_3
 have k47_7 := kt hg47 7 k46_7
 have k47_68 := kt hg47 68 k46_68
 have k47_74 := kt hg47 74 k46_74
 have k47_8 := kt hg47 8 k46_8
 have k47_9 := kt hg47 9 nk1_9
 have k47_10 := kt hg47 10 nk1_10
 have k47_86 := kt hg47 86 (hB47.is 1)
 have k47_105 := kt hg47 105 r47_20
 obtain ⟨ga48, ca48, W48, ra48, ow48, ot48, z48, gg48, fB48⟩ := growR_tail 31 31 70 4 32 _ (by kernel_rfl) Try.infoF rfl [.int .i64 ((pc 0)), .int .i64 ((pc 0) + (ee 0)), .int .i64 ((hg 0)), .int .i64 ((hg 0) + (uu 0)), .int .i64 ((pc 1)), .int .i64 ((pc 1) + (ee 1)), .int .i64 ((hg 1)), .int .i64 ((hg 1) + (uu 1))] 2 (off := 0) (k := 1) (c' := 1) [.int .i64 ((pc 1)), .int .i64 ((pc 1) + (ee 1)), .int .i64 ((hg 1)), .int .i64 ((hg 1) + (uu 1))] fB47 q67' rfl rfl rfl rfl (cells_at br47_20) rfl
 refine tail_value2 (o := _) rfl rfl rfl (run_appendOp (fr_ev k47_86) (fr_ev k47_105) ra48) ?_
 have lo48 := ow48.lim
 have b48_0 := ot48 _ _ (by first | assumption | exact Ne.symm (by assumption) | omega) b47_0
 have b48_1 := ot48 _ _ (by first | assumption | exact Ne.symm (by assumption) | omega) b47_1
 have b48_2 := ot48 _ _ (by first | assumption | exact Ne.symm (by assumption) | omega) b47_2
 have b48_3 := ot48 _ _ (by first | assumption | exact Ne.symm (by assumption) | omega) b47_3
 have b48_4 := ot48 _ _ (by first | assumption | exact Ne.symm (by assumption) | omega) b47_4
 have b48_5 := ot48 _ _ (by first | assumption | exact Ne.symm (by assumption) | omega) b47_5
 have b48_6 := ot48 _ _ (by first | assumption | exact Ne.symm (by assumption) | omega) b47_6
 have b48_7 := ot48 _ _ (by first | assumption | exact Ne.symm (by assumption) | omega) b47_7
 have q68' := q66'.other ot48 (by first | assumption | exact Ne.symm (by assumption) | omega) z48
 generalize hg48 : upd g47 106 (.slice (some ⟨ga48, 0, none⟩) (2) (ca48)) = g48
 have k48_1 := ku hg48 1 k47_1
 have k48_2 := ku hg48 2 k47_2
 have k48_3 := ku hg48 3 k47_3
 have k48_7 := ku hg48 7 k47_7
 have k48_68 := ku hg48 68 k47_68
 have k48_74 := ku hg48 74 k47_74
 have k48_8 := ku hg48 8 k47_8
 have k48_9 := ku hg48 9 k47_9
 have k48_10 := ku hg48 10 k47_10
 have k48_86 := ku hg48 86 k47_86
 have k48_105 := ku hg48 105 k47_105
 have k48_106 := kt hg48 106 (upd_same _ _ _)
 refine tail_value (o := _) rfl rfl rfl (v := .pointer (some ⟨(s2 1), 1, none⟩)) (by simp [go_sem, frv 109 k48_3]) ?_
 generalize hg49 : upd g48 107 (.pointer (some ⟨(s2 1), 1, none⟩)) = g49
 have k49_1 := ku hg49 1 k48_1
 have k49_2 := ku hg49 2 k48_2
 have k49_3 := ku hg49 3 k48_3
 have k49_7 := ku hg49 7 k48_7
 have k49_68 := ku hg49 68 k48_68
 have k49_74 := ku hg49 74 k48_74
 have k49_8 := ku hg49 8 k48_8
 have k49_9 := ku hg49 9 k48_9
 have k49_10 := ku hg49 10 k48_10
 have k49_86 := ku hg49 86 k48_86
 have k49_105 := ku hg49 105 k48_105
 have k49_106 := ku hg49 106 k48_106
 have k49_107 := kt hg49 107 (upd_same _ _ _)
 obtain ⟨W50, hW50⟩ : ∃ W', W' = W48.setRow (s2 1) #[.slice (some ⟨ga28, 0, none⟩) (3) (ca28), .slice (some ⟨ga48, 0, none⟩) (2) (ca48)] := ⟨_, rfl⟩
 refine tail_skip (o := _) rfl ⟨rfl, rfl⟩ (run_seg hW50 (fr_ev k49_107) (fr_ev k49_106) b48_2 rfl rfl rfl rfl) ?_
 obtain ⟨fB50, nb50, ot50, z50⟩ := seg_facts hW50 fB48 b48_2 (by omega)
 clear hW50
 have b50_0 := ot50 _ _ (by first | assumption | exact Ne.symm (by assumption) | omega) b48_0
 have b50_1 := ot50 _ _ (by first | assumption | exact Ne.symm (by assumption) | omega) b48_1
 have b50_3 := ot50 _ _ (by first | assumption | exact Ne.symm (by assumption) | omega) b48_3
 have b50_4 := ot50 _ _ (by first | assumption | exact Ne.symm (by assumption) | omega) b48_4
 have b50_5 := ot50 _ _ (by first | assumption | exact Ne.symm (by assumption) | omega) b48_5
 have b50_6 := ot50 _ _ (by first | assumption | exact Ne.symm (by assumption) | omega) b48_6
 have b50_7 := ot50 _ _ (by first | assumption | exact Ne.symm (by assumption) | omega) b48_7
 have q69' := q68'.other ot50 (ownR_ne q68' b48_2) z50
 have q70' := ow48.other ot50 (ownR_ne ow48 b48_2) z50
 refine wpOps_end ?_
 refine inBlock_normal ?_
 refine hK37 _ _ ?_
 refine region_dk 3 [(69, 0), (70, 1), (7, 2)] [[], [0], [0, 1]] (rel [is (.int .i64 1),
   is (.int .i64 2),
   is (.int .i64 2)])
  ⟨is_k, is_k, is_k, trivial⟩
  ⟨fun f s W c d h i j a => opv rfl rfl (by simp [go_sem, a.e 7 ((i 2 7 rfl rfl).trans k49_7)]) rfl,
  fun f s W c d h i j a => opv rfl rfl (by simp [go_sem, a.e 69 (d 0 rfl), IntWalk.i64_in (2) (by omega)]) rfl,
  fun f s W c d h i j a => opv rfl rfl (by simp [go_sem, a.e 70 (d 1 rfl)]) rfl, trivial⟩ ?_
 intro f51 s51 W51 hB51 g51 hg51
 have fB51 := hB51.f fB50
 have z51 := hB51.below.size
 have b51_0 := hB51.b b50_0
 have b51_1 := hB51.b b50_1
 have b51_2 := hB51.b nb50
 have b51_3 := hB51.b b50_3
 have b51_4 := hB51.b b50_4
 have b51_5 := hB51.b b50_5
 have b51_6 := hB51.b b50_6
 have b51_7 := hB51.b b50_7
 have q71' := (q69'.below hB51.below)
 have q72' := (q70'.below hB51.below)
 refine wpOps_end ?_
 have k51_1 := kt hg51 1 k49_1
 have k51_2 := kt hg51 2 k49_2
 have k51_3 := kt hg51 3 k49_3
 have k51_68 := kt hg51 68 k49_68
 have k51_74 := kt hg51 74 k49_74
 have k51_8 := kt hg51 8 k49_8
 have k51_9 := kt hg51 9 k49_9
 have k51_10 := kt hg51 10 k49_10
 have k51_86 := kt hg51 86 k49_86
 have k51_105 := kt hg51 105 k49_105
 have k51_106 := kt hg51 106 k49_106
 have k51_107 := kt hg51 107 k49_107
 have k51_7 := kt hg51 7 (hB51.is 2)
 refine then_normal ?_
 rw [rounds_succ]
 refine wp_seq_k fun K40 hK40 => ?_
 refine wp_seq_k fun K41 hK41 => ?_
 refine region_dk 2 [(67, 0), (68, 1)] [[], [0]] (rel [is (.int .i64 2),
   is (.bool false)])
  ⟨is_k, is_k, trivial⟩
  ⟨fun f s W c d h i j a => opv rfl rfl (by simp [go_sem, a.e 7 k51_7]) rfl,
  fun f s W c d h i j a => opv rfl rfl (by simp [go_sem, a.e 67 (d 0 rfl)]) rfl, trivial⟩ ?_
 intro f52 s52 W52 hB52 g52 hg52
 have fB52 := hB52.f fB51
 have z52 := hB52.below.size
 have b52_0 := hB52.b b51_0
 have b52_1 := hB52.b b51_1
 have b52_2 := hB52.b b51_2
 have b52_3 := hB52.b b51_3
 have b52_4 := hB52.b b51_4
 have b52_5 := hB52.b b51_5
 have b52_6 := hB52.b b51_6
 have b52_7 := hB52.b b51_7
 have q73' := (q71'.below hB52.below)
 have q74' := (q72'.below hB52.below)
 refine hK41 _ _ ?_
 have k52_1 := kt hg52 1 k51_1
 have k52_2 := kt hg52 2 k51_2
 have k52_3 := kt hg52 3 k51_3
 have k52_74 := kt hg52 74 k51_74
 have k52_8 := kt hg52 8 k51_8
 have k52_9 := kt hg52 9 k51_9
 have k52_10 := kt hg52 10 k51_10
 have k52_86 := kt hg52 86 k51_86
 have k52_105 := kt hg52 105 k51_105
 have k52_106 := kt hg52 106 k51_106
 have k52_107 := kt hg52 107 k51_107
 have k52_7 := kt hg52 7 k51_7
 have k52_68 := kt hg52 68 (hB52.is 1)
 refine wp_cond_false ((fr_eval rfl).trans k52_68) ?_
 refine wp_exit ?_
 refine then_exit ?_
 refine then_exit ?_
 refine inBlock_at ?_
 refine hK26 _ _ ?_
 refine wp_seq_k fun K43 hK43 => ?_
 refine region_dk 1 [(108, 0)] [[], [0]] (rel [is (.agg #[.slice (some ⟨ga28, 0, none⟩) (3) (ca28), .slice (some ⟨ga48, 0, none⟩) (2) (ca48)])])
  ⟨is_k, trivial⟩
  ⟨fun f s W c d h i j a => opv rfl rfl (by simp [go_sem, a.e 3 k52_3, cb b52_2 c 0, cb b52_2 c 1]) rfl, trivial⟩ ?_
 intro f53 s53 W53 hB53 g53 hg53
 have fB53 := hB53.f fB52
 have z53 := hB53.below.size
 have b53_0 := hB53.b b52_0
 have b53_1 := hB53.b b52_1
 have b53_2 := hB53.b b52_2
 have b53_3 := hB53.b b52_3
 have b53_4 := hB53.b b52_4
 have b53_5 := hB53.b b52_5
 have b53_6 := hB53.b b52_6
 have b53_7 := hB53.b b52_7
 have q75' := (q73'.below hB53.below)
 have q76' := (q74'.below hB53.below)
 have k53_2 := kt hg53 2 k52_2
 have k53_108 := kt hg53 108 (hB53.is 0)
 obtain ⟨W54, hW54⟩ : ∃ W', W' = W53.setRow (s1 1) #[.slice (some ⟨ga28, 0, none⟩) (3) (ca28), .slice (some ⟨ga48, 0, none⟩) (2) (ca48)] := ⟨_, rfl⟩
 refine tail_skip (o := _) rfl ⟨rfl, rfl⟩ (run_seg hW54 (fr_ev k53_2) (fr_ev k53_108) b53_1 rfl rfl rfl rfl) ?_
 obtain ⟨fB54, nb54, ot54, z54⟩ := seg_facts hW54 fB53 b53_1 (by omega)
 clear hW54
 have b54_0 := ot54 _ _ (by first | assumption | exact Ne.symm (by assumption) | omega) b53_0
 have b54_2 := ot54 _ _ (by first | assumption | exact Ne.symm (by assumption) | omega) b53_2
 have b54_3 := ot54 _ _ (by first | assumption | exact Ne.symm (by assumption) | omega) b53_3
 have b54_4 := ot54 _ _ (by first | assumption | exact Ne.symm (by assumption) | omega) b53_4
 have b54_5 := ot54 _ _ (by first | assumption | exact Ne.symm (by assumption) | omega) b53_5
 have b54_6 := ot54 _ _ (by first | assumption | exact Ne.symm (by assumption) | omega) b53_6
 have b54_7 := ot54 _ _ (by first | assumption | exact Ne.symm (by assumption) | omega) b53_7
 have q77' := q75'.other ot54 (ownR_ne q75' b53_1) z54
 have q78' := q76'.other ot54 (ownR_ne q76' b53_1) z54
 refine wpOps_end ?_
 refine hK43 _ _ ?_
 refine wp_ret ?_
 refine leave_gen (v := .agg #[.slice (some ⟨ga28, 0, none⟩) (3) (ca28), .slice (some ⟨ga48, 0, none⟩) (2) (ca48)]) (.inr rfl) (by simp [results, Try.results6, go_sem, frv 109 k53_2, cl nb54 0, cl nb54 1]) ?_
 exact ⟨_, rfl, ⟨_, _, _, _, rfl, q77', q78'⟩, fB54⟩
end Go.Proofs.Ytiocklgakklkpaa
