/- Part of the proof: what the claim leans on. -/
import Derived.Test.YthnediamopehfaaWBG
set_option linter.unusedSimpArgs false
set_option linter.unusedVariables false
namespace Go.Proofs.Ythnediamopehfaa
open Go.RowKit
set_option maxRecDepth 100000 in
set_option maxHeartbeats 40000000 in
theorem over_main (x y : Sh) (gx : ShIn x) (gy : ShIn y) (v0 v1 v2 v3 : Int) (gv0 : 0 ≤ v0 ∧ v0 ≤ 255) (gv1 : 0 ≤ v1 ∧ v1 ≤ 255) (gv2 : 0 ≤ v2 ∧ v2 ≤ 255) (gv3 : 0 ≤ v3 ∧ v3 ≤ 255) (b d lg : Bl) (p0 p1 p2 p3 hh t0 t1 u0 u1 : Int) (op : Bool) (alo ahi clo chi le mo th0 th1 th2 : Int) (L M N : List Sp) (w : World) (hbx : shBl x = b) (hby : shBl y = d) (hcx : shCal x = (alo, ahi)) (hcy : shCal y = (clo, chi)) (hbl : b = ⟨30, [p0, p1, p2, p3], hh, [t0, t1], [u0, u1], 9, op⟩) (hlg : lg = ⟨30, [p0 + mo, p1 + mo, p2 + mo, p3 + mo], hh, [t0, t1], [u0, u1], 9, op⟩) (hle : v0 % 100 = le) (hmo : v1 % 40 = mo) (hckb : checkErr b = 0) (hckd : checkErr d = 0) (hcklg : checkErr lg = 0) (gp0 : 1 ≤ p0 ∧ p0 ≤ 400) (gp1 : 1 ≤ p1 ∧ p1 ≤ 400) (gp2 : 1 ≤ p2 ∧ p2 ≤ 400) (gp3 : 1 ≤ p3 ∧ p3 ≤ 400) (j1 : 200 ≤ alo) (j2 : alo ≤ ahi) (j3 : ahi ≤ 10000) (jc1 : 200 ≤ clo) (jc2 : clo ≤ chi) (jc3 : chi ≤ 10000) (hL : playL b d (alo, ahi) (clo, chi) = L) (hM : playL lg d (alo - le, ahi - le) (clo, chi) = M) (hN : playL b d (alo, ahi) (clo - le, chi - le) = N) (hL4 : L.length = 4) (hM4 : M.length = 4) (hN4 : N.length = 4) (hLle : ∀ i, i < 4 → ¬ (nthP L i).2 < (nthP L i).1) (hLb : ∀ i, i < 4 → (-1000000000 ≤ (nthP L i).1 ∧ (nthP L i).1 ≤ 1000000000) ∧ (-1000000000 ≤ (nthP L i).2 ∧ (nthP L i).2 ≤ 1000000000)) (hMi : ∀ i, i < 4 → nthP M i = (((nthP L i).1 + le) + (1000 * mo), ((nthP L i).2 + le) + (1000 * mo))) (hNi : ∀ i, i < 4 → nthP N i = ((nthP L i).1 + le, (nthP L i).2 + le)) (n1b : b.panels.length ≤ 1000) (n2b : b.top.length ≤ 1000) (n3b : b.bottom.length ≤ 1000) (n1d : d.panels.length ≤ 1000) (n2d : d.top.length ≤ 1000) (n3d : d.bottom.length ≤ 1000) (hmb : ∀ k, k < 5 → 0 ≤ mic b ahi k ∧ mic b ahi k ≤ 3000000) (hth0 : dn (min (mic b ahi 0) (mic b ahi 2)) = th0) (hth1 : dn (min (mic b ahi 1) (mic b ahi 3)) = th1) (hth2 : dn (mic b ahi 4) = th2) (gth0 : 0 ≤ th0 ∧ th0 ≤ 2000) (gth1 : 0 ≤ th1 ∧ th1 ≤ 2000) (gth2 : 0 ≤ th2 ∧ th2 ≤ 2000) (hs1 : insideB b ahi th0 th1 th2 = true) (hs2 : insideB b alo th0 th1 th2 = true) (hs3 : insideB b ahi th2 (max 0 (th0 - v2)) (max 0 (th1 - v3)) = true) (hs4 : insideB b (alo - le) th2 (max 0 (th0 - v2)) (max 0 (th1 - v3)) = true) (hs5 : insideB b ahi (th0 + 1) (th1 + 1) (th2 + 1) = false) :
  Calls Try.prog 6 #[.agg #[.int .u8 x.x0, .int .u8 x.x1, .int .u8 x.x2, .int .u8 x.x3, .int .u8 x.xh, .int .u8 x.y0, .int .u8 x.y1, .int .u8 x.y2, .int .u8 x.y3, .bool x.xo, .int .u8 x.ca, .int .u8 x.cb, .int .u8 x.v0, .int .u8 x.v1, .int .u8 x.v2, .int .u8 x.v3, .int .u8 x.v4], .agg #[.int .u8 y.x0, .int .u8 y.x1, .int .u8 y.x2, .int .u8 y.x3, .int .u8 y.xh, .int .u8 y.y0, .int .u8 y.y1, .int .u8 y.y2, .int .u8 y.y3, .bool y.xo, .int .u8 y.ca, .int .u8 y.cb, .int .u8 y.v0, .int .u8 y.v1, .int .u8 y.v2, .int .u8 y.v3, .int .u8 y.v4], .agg #[.int .u8 v0, .int .u8 v1, .int .u8 v2, .int .u8 v3]] w (fun e w' => e = .returned (.bool true) ∧ Below w.heap.size w w') := by
 have hL4z : ((L.length : Int) != 4) = false := by rw [hL4]; rfl
 have hM4z : ((M.length : Int) != 4) = false := by rw [hM4]; rfl
 have hN4z : ((N.length : Int) != 4) = false := by rw [hN4]; rfl
 have hg0 := Int.not_lt.2 gth0.1
 have hg1 := Int.not_lt.2 gth1.1
 have hg2 := Int.not_lt.2 gth2.1
 have hmb0 := hmb 0 (by decide)
 have hmb1 := hmb 1 (by decide)
 have hmb2 := hmb 2 (by decide)
 have hmb3 := hmb 3 (by decide)
 have hmb4 := hmb 4 (by decide)
 have gle : 0 ≤ le ∧ le < 100 := by omega
 have gmo : 0 ≤ mo ∧ mo < 40 := by omega
 refine calls_fr Try.func6 Try.ntmps6 rfl rfl fun g hg => ?_
 have k0 : g 0 = .agg #[.int .u8 x.x0, .int .u8 x.x1, .int .u8 x.x2, .int .u8 x.x3, .int .u8 x.xh, .int .u8 x.y0, .int .u8 x.y1, .int .u8 x.y2, .int .u8 x.y3, .bool x.xo, .int .u8 x.ca, .int .u8 x.cb, .int .u8 x.v0, .int .u8 x.v1, .int .u8 x.v2, .int .u8 x.v3, .int .u8 x.v4] := hg 0
 have k1 : g 1 = .agg #[.int .u8 y.x0, .int .u8 y.x1, .int .u8 y.x2, .int .u8 y.x3, .int .u8 y.xh, .int .u8 y.y0, .int .u8 y.y1, .int .u8 y.y2, .int .u8 y.y3, .bool y.xo, .int .u8 y.ca, .int .u8 y.cb, .int .u8 y.v0, .int .u8 y.v1, .int .u8 y.v2, .int .u8 y.v3, .int .u8 y.v4] := hg 1
 have k2 : g 2 = .agg #[.int .u8 v0, .int .u8 v1, .int .u8 v2, .int .u8 v3] := hg 2
 clear hg
 have fB0 : Below w.heap.size w w := Below.refl _ _
 refine wp_seq_k fun K1 hK1 => ?_
 as_aux_lemma =>
 refine region_dk 4 [(3, 0), (4, 1), (5, 2), (6, 3)] [[], [], [], []] (rel [bx 0 #[.int .u8 x.x0, .int .u8 x.x1, .int .u8 x.x2, .int .u8 x.x3, .int .u8 x.xh, .int .u8 x.y0, .int .u8 x.y1, .int .u8 x.y2, .int .u8 x.y3, .bool x.xo, .int .u8 x.ca, .int .u8 x.cb, .int .u8 x.v0, .int .u8 x.v1, .int .u8 x.v2, .int .u8 x.v3, .int .u8 x.v4] 56,
   bx 1 #[.int .u8 y.x0, .int .u8 y.x1, .int .u8 y.x2, .int .u8 y.x3, .int .u8 y.xh, .int .u8 y.y0, .int .u8 y.y1, .int .u8 y.y2, .int .u8 y.y3, .bool y.xo, .int .u8 y.ca, .int .u8 y.cb, .int .u8 y.v0, .int .u8 y.v1, .int .u8 y.v2, .int .u8 y.v3, .int .u8 y.v4] 56,
   bx 2 #[.int .u8 v0, .int .u8 v1, .int .u8 v2, .int .u8 v3] 52,
   is (.bool false)])
  ⟨bx_k, bx_k, bx_k, is_k, trivial⟩
  ⟨fun f s W j l m n p a => opb rfl rfl (by simp [go_sem, a.e 0 k0]),
  fun f s W j l m n p a => opb rfl rfl (by simp [go_sem, a.e 1 k1]),
  fun f s W j l m n p a => opb rfl rfl (by simp [go_sem, a.e 2 k2]),
  fun f s W j l m n p a => opv rfl rfl (by simp [go_sem]) rfl, trivial⟩ ?_
 intro f1 s1 W1 hB1 g1 hg1
 have fB1 := hB1.f fB0
 have z1 := hB1.below.size
 obtain ⟨r1_0, br1_0⟩ := hB1.is 0
 have lr1_0 := hB1.lr 0 br1_0
 obtain ⟨r1_1, br1_1⟩ := hB1.is 1
 have lr1_1 := hB1.lr 1 br1_1
 obtain ⟨r1_2, br1_2⟩ := hB1.is 2
 have lr1_2 := hB1.lr 2 br1_2
 have ne1_0_1 := hB1.nb 0 1
 have ne1_0_2 := hB1.nb 0 2
 have ne1_1_2 := hB1.nb 1 2
 refine hK1 _ _ ?_
 have k1_3 := kt hg1 3 r1_0
 have k1_4 := kt hg1 4 r1_1
 have k1_5 := kt hg1 5 r1_2
 have k1_6 := kt hg1 6 (hB1.is 3)
 refine wp_seq_k fun K2 hK2 => ?_
 as_aux_lemma =>
 refine region_dk 12 [(35, 0), (36, 1), (37, 2), (38, 3), (39, 4), (40, 5), (41, 6), (42, 7), (7, 8), (8, 9), (9, 10), (10, 11)] [[], [0], [], [0, 1, 2], [], [0, 1, 2, 3, 4], [], [0, 1, 2, 3, 4, 5, 6], [], [], [], [], [0, 1, 2, 3, 4, 5, 6, 7, 8, 9, 10, 11], [0, 1, 2, 3, 4, 5, 6, 7, 8, 9, 10, 11, 12], [0, 1, 2, 3, 4, 5, 6, 7, 8, 9, 10, 11, 12, 13], [0, 1, 2, 3, 4, 5, 6, 7, 8, 9, 10, 11, 12, 13, 14]] (rel [is (.agg #[.int .u8 x.x0, .int .u8 x.x1, .int .u8 x.x2, .int .u8 x.x3, .int .u8 x.xh, .int .u8 x.y0, .int .u8 x.y1, .int .u8 x.y2, .int .u8 x.y3, .bool x.xo, .int .u8 x.ca, .int .u8 x.cb, .int .u8 x.v0, .int .u8 x.v1, .int .u8 x.v2, .int .u8 x.v3, .int .u8 x.v4]),
   ab fun v W => TyBlk 0 b v W,
   is (.agg #[.int .u8 y.x0, .int .u8 y.x1, .int .u8 y.x2, .int .u8 y.x3, .int .u8 y.xh, .int .u8 y.y0, .int .u8 y.y1, .int .u8 y.y2, .int .u8 y.y3, .bool y.xo, .int .u8 y.ca, .int .u8 y.cb, .int .u8 y.v0, .int .u8 y.v1, .int .u8 y.v2, .int .u8 y.v3, .int .u8 y.v4]),
   ab fun v W => TyBlk 0 d v W,
   is (.agg #[.int .u8 x.x0, .int .u8 x.x1, .int .u8 x.x2, .int .u8 x.x3, .int .u8 x.xh, .int .u8 x.y0, .int .u8 x.y1, .int .u8 x.y2, .int .u8 x.y3, .bool x.xo, .int .u8 x.ca, .int .u8 x.cb, .int .u8 x.v0, .int .u8 x.v1, .int .u8 x.v2, .int .u8 x.v3, .int .u8 x.v4]),
   is (.agg #[.int .i64 alo, .int .i64 ahi]),
   is (.agg #[.int .u8 y.x0, .int .u8 y.x1, .int .u8 y.x2, .int .u8 y.x3, .int .u8 y.xh, .int .u8 y.y0, .int .u8 y.y1, .int .u8 y.y2, .int .u8 y.y3, .bool y.xo, .int .u8 y.ca, .int .u8 y.cb, .int .u8 y.v0, .int .u8 y.v1, .int .u8 y.v2, .int .u8 y.v3, .int .u8 y.v4]),
   is (.agg #[.int .i64 clo, .int .i64 chi]),
   bx 8 #[.int .i64 0, .slice (none) (0) (0), .int .i64 0, .slice (none) (0) (0), .slice (none) (0) (0), .int .i64 0, .bool false] 24,
   bx 9 #[.int .i64 0, .slice (none) (0) (0), .int .i64 0, .slice (none) (0) (0), .slice (none) (0) (0), .int .i64 0, .bool false] 24,
   bx 10 #[.int .i64 0, .int .i64 0] 37,
   bx 11 #[.int .i64 0, .int .i64 0] 37])
  ⟨is_k, ab_k fun v W W' hb h => h.below hb, is_k, ab_k fun v W W' hb h => h.below hb, is_k, is_k, is_k, is_k, bx_k, bx_k, bx_k, bx_k, trivial⟩
  ⟨fun f s W j l m n p a => opl rfl rfl rfl (a.v 3 k1_3) (blk_below br1_0 j) Try.underlying56 rfl (by kernel_rfl) rfl,
  fun f s W j l m n p a => opDo_call (args := #[.agg #[.int .u8 x.x0, .int .u8 x.x1, .int .u8 x.x2, .int .u8 x.x3, .int .u8 x.xh, .int .u8 x.y0, .int .u8 x.y1, .int .u8 x.y2, .int .u8 x.y3, .bool x.xo, .int .u8 x.ca, .int .u8 x.cb, .int .u8 x.v0, .int .u8 x.v1, .int .u8 x.v2, .int .u8 x.v3, .int .u8 x.v4]]) rfl rfl (by simp [go_sem, a.e 35 (l 0 rfl)]) ((hbx ▸ sheet_b x gx W : Calls _ _ _ W (TyBlkP b W))) ((fun e W' h => by obtain ⟨v, e1, h1, h2⟩ := h; exact ⟨_, e1, h2, h1.low (Nat.zero_le _)⟩)),
  fun f s W j l m n p a => opl rfl rfl rfl (a.v 4 k1_4) (blk_below br1_1 j) Try.underlying56 rfl (by kernel_rfl) rfl,
  fun f s W j l m n p a => opDo_call (args := #[.agg #[.int .u8 y.x0, .int .u8 y.x1, .int .u8 y.x2, .int .u8 y.x3, .int .u8 y.xh, .int .u8 y.y0, .int .u8 y.y1, .int .u8 y.y2, .int .u8 y.y3, .bool y.xo, .int .u8 y.ca, .int .u8 y.cb, .int .u8 y.v0, .int .u8 y.v1, .int .u8 y.v2, .int .u8 y.v3, .int .u8 y.v4]]) rfl rfl (by simp [go_sem, a.e 37 (l 2 rfl)]) ((hby ▸ sheet_b y gy W : Calls _ _ _ W (TyBlkP d W))) ((fun e W' h => by obtain ⟨v, e1, h1, h2⟩ := h; exact ⟨_, e1, h2, h1.low (Nat.zero_le _)⟩)),
  fun f s W j l m n p a => opl rfl rfl rfl (a.v 3 k1_3) (blk_below br1_0 j) Try.underlying56 rfl (by kernel_rfl) rfl,
  fun f s W j l m n p a => opDo_call rfl rfl (by simp [go_sem, a.e 39 (l 4 rfl)]) (sheet_c x gx W) ((fun e W' h => by have h1 := h.1; rw [hcx] at h1; exact ⟨_, h1, h.2, rfl⟩)),
  fun f s W j l m n p a => opl rfl rfl rfl (a.v 4 k1_4) (blk_below br1_1 j) Try.underlying56 rfl (by kernel_rfl) rfl,
  fun f s W j l m n p a => opDo_call rfl rfl (by simp [go_sem, a.e 41 (l 6 rfl)]) (sheet_c y gy W) ((fun e W' h => by have h1 := h.1; rw [hcy] at h1; exact ⟨_, h1, h.2, rfl⟩)),
  fun f s W j l m n p a => opb rfl rfl (by simp [go_sem]),
  fun f s W j l m n p a => opb rfl rfl (by simp [go_sem]),
  fun f s W j l m n p a => opb rfl rfl (by simp [go_sem]),
  fun f s W j l m n p a => opb rfl rfl (by simp [go_sem]), trivial⟩ ?_
 intro f2 s2 W2 hB2 g2 hg2
 have fB2 := hB2.f fB1
 have z2 := hB2.below.size
 have b2_0 := hB2.b br1_0
 have b2_1 := hB2.b br1_1
 have b2_2 := hB2.b br1_2
 obtain ⟨g1', c4', g2', c5', g3', c6', r2_1, q7', q8', q9'⟩ := hB2.is 1
 obtain ⟨g10', c13', g11', c14', g12', c15', r2_3, q16', q17', q18'⟩ := hB2.is 3
 obtain ⟨r2_8, br2_8⟩ := hB2.is 8
 have lr2_8 := hB2.lr 8 br2_8
 obtain ⟨r2_9, br2_9⟩ := hB2.is 9
 have lr2_9 := hB2.lr 9 br2_9
 obtain ⟨r2_10, br2_10⟩ := hB2.is 10
 have lr2_10 := hB2.lr 10 br2_10
 obtain ⟨r2_11, br2_11⟩ := hB2.is 11
 have lr2_11 := hB2.lr 11 br2_11
 have ne2_8_9 := hB2.nb 8 9
 have ne2_8_10 := hB2.nb 8 10
 have ne2_9_10 := hB2.nb 9 10
 have ne2_8_11 := hB2.nb 8 11
 have ne2_9_11 := hB2.nb 9 11
 have ne2_10_11 := hB2.nb 10 11
 have k2_5 := kt hg2 5 k1_5
 have k2_6 := kt hg2 6 k1_6
 have k2_36 := kt hg2 36 r2_1
 have k2_38 := kt hg2 38 r2_3
 have k2_40 := kt hg2 40 (hB2.is 5)
 have k2_42 := kt hg2 42 (hB2.is 7)
 have k2_7 := kt hg2 7 r2_8
 have k2_8 := kt hg2 8 r2_9
 have k2_9 := kt hg2 9 r2_10
 have k2_10 := kt hg2 10 r2_11
 obtain ⟨W3, hW3⟩ : ∃ W', W' = W2.setRow (s2 8) #[.int .i64 b.tab, .slice (some ⟨g1', 0, none⟩) (b.panels.length) (c4'), .int .i64 b.height, .slice (some ⟨g2', 0, none⟩) (b.top.length) (c5'), .slice (some ⟨g3', 0, none⟩) (b.bottom.length) (c6'), .int .i64 b.slot, .bool b.isOpen] := ⟨_, rfl⟩
 refine tail_skip (o := _) rfl ⟨rfl, rfl⟩ (run_seg hW3 (fr_ev k2_7) (fr_ev k2_36) br2_8 rfl rfl rfl rfl) ?_
 obtain ⟨fB3, nb3, ot3, z3⟩ := seg_facts hW3 fB2 br2_8 (by omega)
 clear hW3
 have b3_0 := ot3 _ _ (by first | assumption | exact Ne.symm (by assumption) | omega) b2_0
 have b3_1 := ot3 _ _ (by first | assumption | exact Ne.symm (by assumption) | omega) b2_1
 have b3_2 := ot3 _ _ (by first | assumption | exact Ne.symm (by assumption) | omega) b2_2
 have b3_4 := ot3 _ _ (by first | assumption | exact Ne.symm (by assumption) | omega) br2_9
 have b3_5 := ot3 _ _ (by first | assumption | exact Ne.symm (by assumption) | omega) br2_10
 have b3_6 := ot3 _ _ (by first | assumption | exact Ne.symm (by assumption) | omega) br2_11
 have q19' := q7'.other ot3 (own_ne q7' br2_8) z3
 have q20' := q8'.other ot3 (own_ne q8' br2_8) z3
 have q21' := q9'.other ot3 (own_ne q9' br2_8) z3
 have q22' := q16'.other ot3 (own_ne q16' br2_8) z3
 have q23' := q17'.other ot3 (own_ne q17' br2_8) z3
 have q24' := q18'.other ot3 (own_ne q18' br2_8) z3
 obtain ⟨W4, hW4⟩ : ∃ W', W' = W3.setRow (s2 9) #[.int .i64 d.tab, .slice (some ⟨g10', 0, none⟩) (d.panels.length) (c13'), .int .i64 d.height, .slice (some ⟨g11', 0, none⟩) (d.top.length) (c14'), .slice (some ⟨g12', 0, none⟩) (d.bottom.length) (c15'), .int .i64 d.slot, .bool d.isOpen] := ⟨_, rfl⟩
 refine tail_skip (o := _) rfl ⟨rfl, rfl⟩ (run_seg hW4 (fr_ev k2_8) (fr_ev k2_38) b3_4 rfl rfl rfl rfl) ?_
 obtain ⟨fB4, nb4, ot4, z4⟩ := seg_facts hW4 fB3 b3_4 (by omega)
 clear hW4
 have b4_0 := ot4 _ _ (by first | assumption | exact Ne.symm (by assumption) | omega) b3_0
 have b4_1 := ot4 _ _ (by first | assumption | exact Ne.symm (by assumption) | omega) b3_1
 have b4_2 := ot4 _ _ (by first | assumption | exact Ne.symm (by assumption) | omega) b3_2
 have b4_3 := ot4 _ _ (by first | assumption | exact Ne.symm (by assumption) | omega) nb3
 have b4_5 := ot4 _ _ (by first | assumption | exact Ne.symm (by assumption) | omega) b3_5
 have b4_6 := ot4 _ _ (by first | assumption | exact Ne.symm (by assumption) | omega) b3_6
 have q25' := q19'.other ot4 (own_ne q19' b3_4) z4
 have q26' := q20'.other ot4 (own_ne q20' b3_4) z4
 have q27' := q21'.other ot4 (own_ne q21' b3_4) z4
 have q28' := q22'.other ot4 (own_ne q22' b3_4) z4
 have q29' := q23'.other ot4 (own_ne q23' b3_4) z4
 have q30' := q24'.other ot4 (own_ne q24' b3_4) z4
 obtain ⟨W5, hW5⟩ : ∃ W', W' = W4.setRow (s2 10) #[.int .i64 alo, .int .i64 ahi] := ⟨_, rfl⟩
 refine tail_skip (o := _) rfl ⟨rfl, rfl⟩ (run_seg hW5 (fr_ev k2_9) (fr_ev k2_40) b4_5 rfl rfl rfl rfl) ?_
 obtain ⟨fB5, nb5, ot5, z5⟩ := seg_facts hW5 fB4 b4_5 (by omega)
 clear hW5
 have b5_0 := ot5 _ _ (by first | assumption | exact Ne.symm (by assumption) | omega) b4_0
 have b5_1 := ot5 _ _ (by first | assumption | exact Ne.symm (by assumption) | omega) b4_1
 have b5_2 := ot5 _ _ (by first | assumption | exact Ne.symm (by assumption) | omega) b4_2
 have b5_3 := ot5 _ _ (by first | assumption | exact Ne.symm (by assumption) | omega) b4_3
 have b5_4 := ot5 _ _ (by first | assumption | exact Ne.symm (by assumption) | omega) nb4
 have b5_6 := ot5 _ _ (by first | assumption | exact Ne.symm (by assumption) | omega) b4_6
 have q31' := q25'.other ot5 (own_ne q25' b4_5) z5
 have q32' := q26'.other ot5 (own_ne q26' b4_5) z5
 have q33' := q27'.other ot5 (own_ne q27' b4_5) z5
 have q34' := q28'.other ot5 (own_ne q28' b4_5) z5
 have q35' := q29'.other ot5 (own_ne q29' b4_5) z5
 have q36' := q30'.other ot5 (own_ne q30' b4_5) z5
 obtain ⟨W6, hW6⟩ : ∃ W', W' = W5.setRow (s2 11) #[.int .i64 clo, .int .i64 chi] := ⟨_, rfl⟩
 refine tail_skip (o := _) rfl ⟨rfl, rfl⟩ (run_seg hW6 (fr_ev k2_10) (fr_ev k2_42) b5_6 rfl rfl rfl rfl) ?_
 obtain ⟨fB6, nb6, ot6, z6⟩ := seg_facts hW6 fB5 b5_6 (by omega)
 clear hW6
 have b6_0 := ot6 _ _ (by first | assumption | exact Ne.symm (by assumption) | omega) b5_0
 have b6_1 := ot6 _ _ (by first | assumption | exact Ne.symm (by assumption) | omega) b5_1
 have b6_2 := ot6 _ _ (by first | assumption | exact Ne.symm (by assumption) | omega) b5_2
 have b6_3 := ot6 _ _ (by first | assumption | exact Ne.symm (by assumption) | omega) b5_3
 have b6_4 := ot6 _ _ (by first | assumption | exact Ne.symm (by assumption) | omega) b5_4
 have b6_5 := ot6 _ _ (by first | assumption | exact Ne.symm (by assumption) | omega) nb5
 have q37' := q31'.other ot6 (own_ne q31' b5_6) z6
 have q38' := q32'.other ot6 (own_ne q32' b5_6) z6
 have q39' := q33'.other ot6 (own_ne q33' b5_6) z6
 have q40' := q34'.other ot6 (own_ne q34' b5_6) z6
 have q41' := q35'.other ot6 (own_ne q35' b5_6) z6
 have q42' := q36'.other ot6 (own_ne q36' b5_6) z6
 refine wpOps_end ?_
 refine hK2 _ _ ?_
 refine wp_seq_k fun K3 hK3 => ?_
 as_aux_lemma =>
 refine region_dk 12 [(44, 0), (45, 1), (46, 2), (47, 3), (48, 4), (49, 5), (50, 6), (43, 7), (51, 8), (52, 9), (11, 10), (12, 11)] [[], [0], [], [0, 1, 2], [], [], [0, 1, 2, 3, 4, 5], [0, 1, 2, 3, 4, 5, 6], [0, 1, 2, 3, 4, 5, 6, 7], [0, 1, 2, 3, 4, 5, 6, 7], [0, 1, 2, 3, 4, 5, 6, 7, 8], [0, 1, 2, 3, 4, 5, 6, 7, 8, 9, 10]] (rel [is (.agg #[.int .i64 b.tab, .slice (some ⟨g1', 0, none⟩) (b.panels.length) (c4'), .int .i64 b.height, .slice (some ⟨g2', 0, none⟩) (b.top.length) (c5'), .slice (some ⟨g3', 0, none⟩) (b.bottom.length) (c6'), .int .i64 b.slot, .bool b.isOpen]),
   fun v s W => NwBlk (s 1) (b) v W,
   is (.agg #[.int .i64 d.tab, .slice (some ⟨g10', 0, none⟩) (d.panels.length) (c13'), .int .i64 d.height, .slice (some ⟨g11', 0, none⟩) (d.top.length) (c14'), .slice (some ⟨g12', 0, none⟩) (d.bottom.length) (c15'), .int .i64 d.slot, .bool d.isOpen]),
   fun v s W => NwBlk (s 3) (d) v W,
   is (.agg #[.int .i64 alo, .int .i64 ahi]),
   is (.agg #[.int .i64 clo, .int .i64 chi]),
   ab fun v W => ∃ x0, v = .tuple #[x0, .int .i64 0] ∧ IsPp L x0 W,
   ab fun v W => ∃ x0, v = .tuple #[x0, .int .i64 0] ∧ IsPp L x0 W,
   ab fun v W => IsPp L v W,
   is (.int .i64 0),
   ab fun v W => IsPp L v W,
   is (.int .i64 0)])
  ⟨is_k, ⟨fun v k W W' hb h => h.below hb, fun v s s' W e h => by have h' : NwBlk (s 1) (b) v W := h; show NwBlk (s' 1) (b) v W; rw [← e 1 (by simp)]; exact h'⟩, is_k, ⟨fun v k W W' hb h => h.below hb, fun v s s' W e h => by have h' : NwBlk (s 3) (d) v W := h; show NwBlk (s' 3) (d) v W; rw [← e 3 (by simp)]; exact h'⟩, is_k, is_k, ab_k fun v W W' hb ⟨x0, e, h0⟩ => ⟨x0, e, h0.below hb⟩, ab_k fun v W W' hb ⟨x0, e, h0⟩ => ⟨x0, e, h0.below hb⟩, ab_k fun v W W' hb h => h.below hb, is_k, ab_k fun v W W' hb h => h.below hb, is_k, trivial⟩
  ⟨fun f s W j l m n p a => opl rfl rfl rfl (a.v 7 k2_7) (blk_below b6_3 j) Try.underlying24 rfl (by kernel_rfl) rfl,
  fun f s W j l m n p a => opDo_call (args := #[.agg #[.int .i64 b.tab, .slice (some ⟨g1', 0, none⟩) (b.panels.length) (c4'), .int .i64 b.height, .slice (some ⟨g2', 0, none⟩) (b.top.length) (c5'), .slice (some ⟨g3', 0, none⟩) (b.bottom.length) (c6'), .int .i64 b.slot, .bool b.isOpen]]) rfl rfl (by simp [go_sem, a.e 44 (l 0 rfl)]) (own_any _ _ _ _ _ _ b W ((q37'.below j)).ii ((q38'.below j)).ii ((q39'.below j)).ii n1b n2b n3b) (fun e W' h => by obtain ⟨v, e1, h1, h2⟩ := h; exact ⟨v, e1, h2, (show NwBlk (upd s 1 W.heap.size 1) (b) v W' from by rw [upd_at]; exact h1)⟩),
  fun f s W j l m n p a => opl rfl rfl rfl (a.v 8 k2_8) (blk_below b6_4 j) Try.underlying24 rfl (by kernel_rfl) rfl,
  fun f s W j l m n p a => opDo_call (args := #[.agg #[.int .i64 d.tab, .slice (some ⟨g10', 0, none⟩) (d.panels.length) (c13'), .int .i64 d.height, .slice (some ⟨g11', 0, none⟩) (d.top.length) (c14'), .slice (some ⟨g12', 0, none⟩) (d.bottom.length) (c15'), .int .i64 d.slot, .bool d.isOpen]]) rfl rfl (by simp [go_sem, a.e 46 (l 2 rfl)]) (own_any _ _ _ _ _ _ d W ((q40'.below j)).ii ((q41'.below j)).ii ((q42'.below j)).ii n1d n2d n3d) (fun e W' h => by obtain ⟨v, e1, h1, h2⟩ := h; exact ⟨v, e1, h2, (show NwBlk (upd s 3 W.heap.size 3) (d) v W' from by rw [upd_at]; exact h1)⟩),
  fun f s W j l m n p a => opv rfl rfl (by simp [go_sem, a.e 9 k2_9, cb b6_5 j 0, cb b6_5 j 1]) rfl,
  fun f s W j l m n p a => opv rfl rfl (by simp [go_sem, a.e 10 k2_10, cb nb6 j 0, cb nb6 j 1]) rfl,
  fun f s W j l m n p a => by obtain ⟨g43', c46', g44', c47', g45', c48', d1, ⟨q49', q51', q50'⟩, ⟨q52', q54', q53'⟩, ⟨q55', q57', q56'⟩⟩ := (l 1 rfl); obtain ⟨g58', c61', g59', c62', g60', c63', d3, ⟨q64', q66', q65'⟩, ⟨q67', q69', q68'⟩, ⟨q70', q72', q71'⟩⟩ := (l 3 rfl); exact opDo_call (args := #[.agg #[.int .i64 b.tab, .slice (some ⟨g43', 0, none⟩) (b.panels.length) (c46'), .int .i64 b.height, .slice (some ⟨g44', 0, none⟩) (b.top.length) (c47'), .slice (some ⟨g45', 0, none⟩) (b.bottom.length) (c48'), .int .i64 b.slot, .bool b.isOpen], .agg #[.int .i64 d.tab, .slice (some ⟨g58', 0, none⟩) (d.panels.length) (c61'), .int .i64 d.height, .slice (some ⟨g59', 0, none⟩) (d.top.length) (c62'), .slice (some ⟨g60', 0, none⟩) (d.bottom.length) (c63'), .int .i64 d.slot, .bool d.isOpen], .agg #[.int .i64 alo, .int .i64 ahi], .agg #[.int .i64 clo, .int .i64 chi]]) rfl rfl (by simp [go_sem, a.e 45 d1, a.e 47 d3, a.e 48 (l 4 rfl), a.e 49 (l 5 rfl)]) (play_in (b := b) (d := d) W ⟨_, _, _, _, _, _, _, _, _, rfl, q49', q52', q55'⟩ ⟨_, _, _, _, _, _, _, _, _, rfl, q64', q67', q70'⟩ hckb hckd (by omega) (by omega) (by omega) (by omega) (by omega) (by omega) hL) ((fun e W' h => by obtain ⟨x, e1, h1, h2⟩ := h; exact ⟨_, e1, h2, _, rfl, h1⟩)),
  fun f s W j l m n p a => opv (v := (f 6)) rfl rfl (by simp [go_sem, (a.at' 50 rfl : p.tmps[50]?.getD undef = f 6)] <;> rfl) (l 6 rfl),
  fun f s W j l m n p a => by obtain ⟨x7_0, d7, p7_0⟩ := (l 7 rfl); exact opv (v := x7_0) rfl rfl (by simp [go_sem, a.e 43 d7]) p7_0,
  fun f s W j l m n p a => by obtain ⟨x7_0, d7, p7_0⟩ := (l 7 rfl); exact opv rfl rfl (by simp [go_sem, a.e 43 d7]) rfl,
  fun f s W j l m n p a => opv (v := (f 8)) rfl rfl (by simp [go_sem, (a.at' 51 rfl : p.tmps[51]?.getD undef = f 8)] <;> rfl) (l 8 rfl),
  fun f s W j l m n p a => opv rfl rfl (by simp [go_sem, a.e 52 (l 9 rfl)]) rfl, trivial⟩ ?_
 intro f7 s7 W7 hB7 g7 hg7
 have fB7 := hB7.f fB6
 have z7 := hB7.below.size
 have b7_0 := hB7.b b6_0
 have b7_1 := hB7.b b6_1
 have b7_2 := hB7.b b6_2
 have b7_3 := hB7.b b6_3
 have b7_4 := hB7.b b6_4
 have b7_5 := hB7.b b6_5
 have b7_6 := hB7.b nb6
 have q76' := (q37'.below hB7.below)
 have q77' := (q38'.below hB7.below)
 have q78' := (q39'.below hB7.below)
 have q79' := (q40'.below hB7.below)
 have q80' := (q41'.below hB7.below)
 have q81' := (q42'.below hB7.below)
 obtain ⟨a82', c83', r7_10, q84'⟩ := hB7.is 10
 have lim85' := Pp.lim q84'
 refine hK3 _ _ ?_
 have k7_5 := kt hg7 5 k2_5
 have k7_6 := kt hg7 6 k2_6
 have k7_7 := kt hg7 7 k2_7
 have k7_8 := kt hg7 8 k2_8
 have k7_9 := kt hg7 9 k2_9
 have k7_10 := kt hg7 10 k2_10
 have k7_11 := kt hg7 11 r7_10
 have k7_12 := kt hg7 12 (hB7.is 11)
 refine wp_seq_k fun K4 hK4 => ?_
 as_aux_lemma =>
 refine region_dk 10 [(53, 0), (54, 1), (55, 2), (56, 3), (57, 4), (58, 5), (59, 6), (60, 7), (13, 8), (14, 9)] [[], [0], [0, 1], [0, 1, 2], [], [4], [4, 5], [4, 5, 6], [0, 1, 2, 3], [0, 1, 2, 3, 4, 5, 6, 7, 8]] (rel [is (.pointer (some ⟨(s1 2), 0, none⟩)),
   is (.int .u8 v0),
   is (.int .i64 v0),
   is (.int .i64 le),
   is (.pointer (some ⟨(s1 2), 1, none⟩)),
   is (.int .u8 v1),
   is (.int .i64 v1),
   is (.int .i64 mo),
   is (.int .i64 le),
   is (.int .i64 mo)])
  ⟨is_k, is_k, is_k, is_k, is_k, is_k, is_k, is_k, is_k, is_k, trivial⟩
  ⟨fun f s W j l m n p a => opv rfl rfl (by simp [go_sem, a.e 5 k7_5]) rfl,
  fun f s W j l m n p a => opv rfl rfl (by simp [go_sem, a.e 53 (l 0 rfl), cb b7_2 j 0]) rfl,
  fun f s W j l m n p a => by have cv_ := IntWalk.i64_in v0 (by omega); exact opv rfl rfl (by simp [go_sem, a.e 54 (l 1 rfl), cv_]) rfl,
  fun f s W j l m n p a => by have qu_ : (v0).tmod 100 = le := (Int.tmod_eq_emod_of_nonneg (by omega)).trans hle; have qw_ := IntWalk.i64_in (le) (by omega); exact opv rfl rfl (by simp [go_sem, a.e 55 (l 2 rfl), qu_, qw_]) rfl,
  fun f s W j l m n p a => opv rfl rfl (by simp [go_sem, a.e 5 k7_5]) rfl,
  fun f s W j l m n p a => opv rfl rfl (by simp [go_sem, a.e 57 (l 4 rfl), cb b7_2 j 1]) rfl,
  fun f s W j l m n p a => by have cv_ := IntWalk.i64_in v1 (by omega); exact opv rfl rfl (by simp [go_sem, a.e 58 (l 5 rfl), cv_]) rfl,
  fun f s W j l m n p a => by have qu_ : (v1).tmod 40 = mo := (Int.tmod_eq_emod_of_nonneg (by omega)).trans hmo; have qw_ := IntWalk.i64_in (mo) (by omega); exact opv rfl rfl (by simp [go_sem, a.e 59 (l 6 rfl), qu_, qw_]) rfl,
  fun f s W j l m n p a => opv rfl rfl (by simp [go_sem, a.e 56 (l 3 rfl)]) rfl,
  fun f s W j l m n p a => opv rfl rfl (by simp [go_sem, a.e 60 (l 7 rfl)]) rfl, trivial⟩ ?_
 intro f8 s8 W8 hB8 g8 hg8
 have fB8 := hB8.f fB7
 have z8 := hB8.below.size
 have b8_0 := hB8.b b7_0
 have b8_1 := hB8.b b7_1
 have b8_2 := hB8.b b7_2
 have b8_3 := hB8.b b7_3
 have b8_4 := hB8.b b7_4
 have b8_5 := hB8.b b7_5
 have b8_6 := hB8.b b7_6
 have q86' := (q76'.below hB8.below)
 have q87' := (q77'.below hB8.below)
 have q88' := (q78'.below hB8.below)
 have q89' := (q79'.below hB8.below)
 have q90' := (q80'.below hB8.below)
 have q91' := (q81'.below hB8.below)
 have q92' := (q84'.bw hB8)
 refine hK4 _ _ ?_
 have k8_5 := kt hg8 5 k7_5
 have k8_6 := kt hg8 6 k7_6
 have k8_7 := kt hg8 7 k7_7
 have k8_8 := kt hg8 8 k7_8
 have k8_9 := kt hg8 9 k7_9
 have k8_10 := kt hg8 10 k7_10
 have k8_11 := kt hg8 11 k7_11
 have k8_12 := kt hg8 12 k7_12
 have k8_13 := kt hg8 13 (hB8.is 8)
 have k8_14 := kt hg8 14 (hB8.is 9)
 have fA9 : Below W8.heap.size W8 W8 := Below.refl _ _
 refine wp_seq_k fun K5 hK5 => ?_
 as_aux_lemma =>
 refine region_dk 3 [(61, 0), (62, 1), (15, 2)] [[], [0], [], [0, 1, 2]] (rel [is (.agg #[.int .i64 b.tab, .slice (some ⟨g1', 0, none⟩) (b.panels.length) (c4'), .int .i64 b.height, .slice (some ⟨g2', 0, none⟩) (b.top.length) (c5'), .slice (some ⟨g3', 0, none⟩) (b.bottom.length) (c6'), .int .i64 b.slot, .bool b.isOpen]),
   fun v s W => OwBlk (s 1) (⟨30, [p0, p1, p2, p3], hh, [t0, t1], [u0, u1], 9, op⟩) v W,
   bx 2 #[.int .i64 0, .slice (none) (0) (0), .int .i64 0, .slice (none) (0) (0), .slice (none) (0) (0), .int .i64 0, .bool false] 24])
  ⟨is_k, ⟨fun v k W W' hb h => h.below hb, fun v s s' W e h => by have h' : OwBlk (s 1) (⟨30, [p0, p1, p2, p3], hh, [t0, t1], [u0, u1], 9, op⟩) v W := h; show OwBlk (s' 1) (⟨30, [p0, p1, p2, p3], hh, [t0, t1], [u0, u1], 9, op⟩) v W; rw [← e 1 (by simp)]; exact h'⟩, bx_k, trivial⟩
  ⟨fun f s W j l m n p a => by have aW := below_trans fA9 j; exact opl rfl rfl rfl (a.v 7 k8_7) (blk_below b8_3 aW) Try.underlying24 rfl (by kernel_rfl) rfl,
  fun f s W j l m n p a => by have aW := below_trans fA9 j; exact opDo_call (args := #[.agg #[.int .i64 b.tab, .slice (some ⟨g1', 0, none⟩) (b.panels.length) (c4'), .int .i64 b.height, .slice (some ⟨g2', 0, none⟩) (b.top.length) (c5'), .slice (some ⟨g3', 0, none⟩) (b.bottom.length) (c6'), .int .i64 b.slot, .bool b.isOpen]]) rfl rfl (by simp [go_sem, a.e 61 (l 0 rfl)]) (own_lit hbl _ _ _ _ _ _ W ((q86'.below aW)).ii ((q87'.below aW)).ii ((q88'.below aW)).ii) (fun e W' h => by obtain ⟨v, e1, h1, h2⟩ := h; exact ⟨v, e1, h2, (show OwBlk (upd s 1 W.heap.size 1) (⟨30, [p0, p1, p2, p3], hh, [t0, t1], [u0, u1], 9, op⟩) v W' from by rw [upd_at]; exact h1)⟩),
  fun f s W j l m n p a => opb rfl rfl (by simp [go_sem]), trivial⟩ ?_
 intro f10 s10 W10 hB10 g10 hg10
 have fB10 := hB10.f fB8
 have z10 := hB10.below.size
 have fA10 := hB10.f fA9
 obtain ⟨g93', c96', g94', c97', g95', c98', r10_1, q99', q100', q101', q102', q103', q104'⟩ := hB10.is 1
 have la10_1 := hB10.from' 1 (by decide)
 have lo10_1_o0 := q99'.lim
 have q105' := q99'.low (B' := w.heap.size) (Nat.le_trans fB8.size (la10_1))
 have lo10_1_o1 := q100'.lim
 have q106' := q100'.low (B' := w.heap.size) (Nat.le_trans fB8.size (la10_1))
 have lo10_1_o2 := q101'.lim
 have q107' := q101'.low (B' := w.heap.size) (Nat.le_trans fB8.size (la10_1))
 obtain ⟨r10_2, br10_2⟩ := hB10.is 2
 have lr10_2 := hB10.lr 2 br10_2
 have oo10_1_o0_2 := hB10.off 1 2 (by decide) (by decide) (by decide) lo10_1_o0.1 (fun W h => (OwBlk.lt h r10_1).1) (fun _ _ _ h => lt_of_blk h.2)
 have oo10_1_o1_2 := hB10.off 1 2 (by decide) (by decide) (by decide) lo10_1_o1.1 (fun W h => (OwBlk.lt h r10_1).2.1) (fun _ _ _ h => lt_of_blk h.2)
 have oo10_1_o2_2 := hB10.off 1 2 (by decide) (by decide) (by decide) lo10_1_o2.1 (fun W h => (OwBlk.lt h r10_1).2.2) (fun _ _ _ h => lt_of_blk h.2)
 have k10_5 := kt hg10 5 k8_5
 have k10_6 := kt hg10 6 k8_6
 have k10_7 := kt hg10 7 k8_7
 have k10_8 := kt hg10 8 k8_8
 have k10_9 := kt hg10 9 k8_9
 have k10_10 := kt hg10 10 k8_10
 have k10_11 := kt hg10 11 k8_11
 have k10_12 := kt hg10 12 k8_12
 have k10_13 := kt hg10 13 k8_13
 have k10_14 := kt hg10 14 k8_14
 have k10_62 := kt hg10 62 r10_1
 have k10_15 := kt hg10 15 r10_2
 obtain ⟨W11, hW11⟩ : ∃ W', W' = W10.setRow (s10 2) #[.int .i64 30, .slice (some ⟨g93', 0, none⟩) (4) (c96'), .int .i64 hh, .slice (some ⟨g94', 0, none⟩) (2) (c97'), .slice (some ⟨g95', 0, none⟩) (2) (c98'), .int .i64 9, .bool op] := ⟨_, rfl⟩
 refine tail_skip (o := _) rfl ⟨rfl, rfl⟩ (run_seg hW11 (fr_ev k10_15) (fr_ev k10_62) br10_2 rfl rfl rfl rfl) ?_
 obtain ⟨fB11, nb11, ot11, z11⟩ := seg_facts hW11 fB10 br10_2 (by omega)
 have fA11 := (seg_facts hW11 fA10 br10_2 (by omega)).1
 clear hW11
 have q108' := q105'.other ot11 (by first | assumption | exact Ne.symm (by assumption) | omega) z11
 have q109' := q106'.other ot11 (by first | assumption | exact Ne.symm (by assumption) | omega) z11
 have q110' := q107'.other ot11 (by first | assumption | exact Ne.symm (by assumption) | omega) z11
 refine wpOps_end ?_
 refine hK5 _ _ ?_
 refine wp_seq_k fun K6 hK6 => ?_
 refine wp_seq_k fun K7 hK7 => ?_
 as_aux_lemma =>
 refine region_dk 1 [(16, 0)] [[]] (rel [is (.int .i64 0)])
  ⟨is_k, trivial⟩
  ⟨fun f s W j l m n p a => opv rfl rfl (by simp [go_sem]) rfl, trivial⟩ ?_
 intro f12 s12 W12 hB12 g12 hg12
 have fB12 := hB12.f fB11
 have z12 := hB12.below.size
 have fA12 := hB12.f fA11
 have b12_7 := hB12.b nb11
 have q111' := (q108'.below hB12.below)
 have q112' := (q109'.below hB12.below)
 have q113' := (q110'.below hB12.below)
 refine hK7 _ _ ?_
 have k12_5 := kt hg12 5 k10_5
 have k12_6 := kt hg12 6 k10_6
 have k12_7 := kt hg12 7 k10_7
 have k12_8 := kt hg12 8 k10_8
 have k12_9 := kt hg12 9 k10_9
 have k12_10 := kt hg12 10 k10_10
 have k12_11 := kt hg12 11 k10_11
 have k12_12 := kt hg12 12 k10_12
 have k12_13 := kt hg12 13 k10_13
 have k12_14 := kt hg12 14 k10_14
 have k12_15 := kt hg12 15 k10_15
 have k12_16 := kt hg12 16 (hB12.is 0)
 refine wp_block ?_
 refine wp_loop_rounds 5 ?_
 rw [rounds_succ]
 refine wp_seq_k fun K8 hK8 => ?_
 refine wp_seq_k fun K9 hK9 => ?_
 as_aux_lemma =>
 refine region_dk 2 [(63, 0), (64, 1)] [[], [0]] (rel [is (.int .i64 0),
   is (.bool true)])
  ⟨is_k, is_k, trivial⟩
  ⟨fun f s W j l m n p a => opv rfl rfl (by simp [go_sem, a.e 16 k12_16]) rfl,
  fun f s W j l m n p a => opv rfl rfl (by simp [go_sem, a.e 63 (l 0 rfl)]) rfl, trivial⟩ ?_
 intro f13 s13 W13 hB13 g13 hg13
 have fB13 := hB13.f fB12
 have z13 := hB13.below.size
 have fA13 := hB13.f fA12
 have b13_7 := hB13.b b12_7
 have q114' := (q111'.below hB13.below)
 have q115' := (q112'.below hB13.below)
 have q116' := (q113'.below hB13.below)
 refine hK9 _ _ ?_
 have k13_5 := kt hg13 5 k12_5
 have k13_6 := kt hg13 6 k12_6
 have k13_7 := kt hg13 7 k12_7
 have k13_8 := kt hg13 8 k12_8
 have k13_9 := kt hg13 9 k12_9
 have k13_10 := kt hg13 10 k12_10
 have k13_11 := kt hg13 11 k12_11
 have k13_12 := kt hg13 12 k12_12
 have k13_13 := kt hg13 13 k12_13
 have k13_14 := kt hg13 14 k12_14
 have k13_15 := kt hg13 15 k12_15
 have k13_16 := kt hg13 16 k12_16
 have k13_64 := kt hg13 64 (hB13.is 1)
 refine wp_cond_true ((fr_eval rfl).trans k13_64) ?_
 refine wp_skip ?_
 refine hK8 _ _ ?_
 refine wp_seq_k fun K11 hK11 => ?_
 refine wp_block ?_
 as_aux_lemma =>
 refine region_dk 8 [(67, 0), (68, 1), (69, 2), (70, 3), (71, 4), (72, 5), (73, 6), (74, 7)] [[], [0], [], [0, 1, 2], [0, 1, 2, 3], [], [0, 1, 2, 3, 4, 5], [0, 1, 2, 3, 4, 5, 6], [0, 1, 2, 3, 4, 5, 6, 7]] (rel [is (.pointer (some ⟨(s10 2), 1, none⟩)),
   is (.slice (some ⟨g93', 0, none⟩) (4) (c96')),
   is (.int .i64 0),
   is (.pointer (some ⟨g93', 0, none⟩)),
   is (.int .i64 p0),
   is (.int .i64 mo),
   is (.int .i64 (p0 + mo)),
   is (.pointer (some ⟨g93', 0, none⟩))])
  ⟨is_k, is_k, is_k, is_k, is_k, is_k, is_k, is_k, trivial⟩
  ⟨fun f s W j l m n p a => opv rfl rfl (by simp [go_sem, a.e 15 k13_15]) rfl,
  fun f s W j l m n p a => opv rfl rfl (by simp [go_sem, a.e 67 (l 0 rfl), cb b13_7 j 1]) rfl,
  fun f s W j l m n p a => opv rfl rfl (by simp [go_sem, a.e 16 k13_16]) rfl,
  fun f s W j l m n p a => opv rfl rfl (by simp [go_sem, a.e 68 (l 1 rfl), a.e 69 (l 2 rfl)]) rfl,
  fun f s W j l m n p a => by have u4_ : W.cell? ⟨g93', 0, none⟩ = some (.int .i64 (p0)) := (OwnI.cell ((q114'.below j)) (i := 0) (by simp)); exact opv rfl rfl (by simp [go_sem, a.e 70 (l 3 rfl), u4_]) rfl,
  fun f s W j l m n p a => opv rfl rfl (by simp [go_sem, a.e 14 k13_14]) rfl,
  fun f s W j l m n p a => opv rfl rfl (by simp [go_sem, a.e 71 (l 4 rfl), a.e 72 (l 5 rfl), IntWalk.i64_in (p0 + mo) (by omega)]) rfl,
  fun f s W j l m n p a => opv rfl rfl (by simp [go_sem, a.e 68 (l 1 rfl), a.e 69 (l 2 rfl)]) rfl, trivial⟩ ?_
 intro f14 s14 W14 hB14 g14 hg14
 have fB14 := hB14.f fB13
 have z14 := hB14.below.size
 have fA14 := hB14.f fA13
 have b14_7 := hB14.b b13_7
 have q117' := (q114'.below hB14.below)
 have q118' := (q115'.below hB14.below)
 have q119' := (q116'.below hB14.below)
 have k14_5 := kt hg14 5 k13_5
 have k14_6 := kt hg14 6 k13_6
 have k14_7 := kt hg14 7 k13_7
 have k14_8 := kt hg14 8 k13_8
 have k14_9 := kt hg14 9 k13_9
 have k14_10 := kt hg14 10 k13_10
 have k14_11 := kt hg14 11 k13_11
 have k14_12 := kt hg14 12 k13_12
 have k14_13 := kt hg14 13 k13_13
 have k14_14 := kt hg14 14 k13_14
 have k14_15 := kt hg14 15 k13_15
 have k14_16 := kt hg14 16 k13_16
 have k14_64 := kt hg14 64 k13_64
 have k14_73 := kt hg14 73 (hB14.is 6)
 have k14_74 := kt hg14 74 (hB14.is 7)
 obtain ⟨W15, st15, ow15, ot15, z15, fB15, ax15⟩ := storeIA_tail (c := c96') (i := 0) (x := p0 + mo) ([p0 + mo, p1, p2, p3]) (by simp) rfl fB14 q117'
 refine tail_skip (o := _) rfl ⟨rfl, rfl⟩ (st15 (fr_ev k14_74) (fr_ev k14_73)) ?_
 have fA15 := ax15 _ fA14 (by omega)
 have b15_7 := ot15 _ _ (by first | assumption | exact Ne.symm (by assumption) | omega) b14_7
 have q120' := q118'.other ot15 (by first | assumption | exact Ne.symm (by assumption) | omega) z15
 have q121' := q119'.other ot15 (by first | assumption | exact Ne.symm (by assumption) | omega) z15
 refine wpOps_end ?_
 refine inBlock_normal ?_
 refine hK11 _ _ ?_
 as_aux_lemma =>
 refine region_dk 3 [(65, 0), (66, 1), (16, 2)] [[], [0], [0, 1]] (rel [is (.int .i64 0),
   is (.int .i64 1),
   is (.int .i64 1)])
  ⟨is_k, is_k, is_k, trivial⟩
  ⟨fun f s W j l m n p a => opv rfl rfl (by simp [go_sem, a.e 16 ((n 2 16 rfl rfl).trans k14_16)]) rfl,
  fun f s W j l m n p a => opv rfl rfl (by simp [go_sem, a.e 65 (l 0 rfl), IntWalk.i64_in (1) (by omega)]) rfl,
  fun f s W j l m n p a => opv rfl rfl (by simp [go_sem, a.e 66 (l 1 rfl)]) rfl, trivial⟩ ?_
 intro f16 s16 W16 hB16 g16 hg16
 have fB16 := hB16.f fB15
 have z16 := hB16.below.size
 have fA16 := hB16.f fA15
 have b16_7 := hB16.b b15_7
 have q122' := (q120'.below hB16.below)
 have q123' := (q121'.below hB16.below)
 have q124' := (ow15.below hB16.below)
 refine wpOps_end ?_
 have k16_5 := kt hg16 5 k14_5
 have k16_6 := kt hg16 6 k14_6
 have k16_7 := kt hg16 7 k14_7
 have k16_8 := kt hg16 8 k14_8
 have k16_9 := kt hg16 9 k14_9
 have k16_10 := kt hg16 10 k14_10
 have k16_11 := kt hg16 11 k14_11
 have k16_12 := kt hg16 12 k14_12
 have k16_13 := kt hg16 13 k14_13
 have k16_14 := kt hg16 14 k14_14
 have k16_15 := kt hg16 15 k14_15
 have k16_64 := kt hg16 64 k14_64
 have k16_73 := kt hg16 73 k14_73
 have k16_74 := kt hg16 74 k14_74
 have k16_16 := kt hg16 16 (hB16.is 2)
 refine then_normal ?_
 rw [rounds_succ]
 refine wp_seq_k fun K12 hK12 => ?_
 refine wp_seq_k fun K13 hK13 => ?_
 as_aux_lemma =>
 refine region_dk 2 [(63, 0), (64, 1)] [[], [0]] (rel [is (.int .i64 1),
   is (.bool true)])
  ⟨is_k, is_k, trivial⟩
  ⟨fun f s W j l m n p a => opv rfl rfl (by simp [go_sem, a.e 16 k16_16]) rfl,
  fun f s W j l m n p a => opv rfl rfl (by simp [go_sem, a.e 63 (l 0 rfl)]) rfl, trivial⟩ ?_
 intro f17 s17 W17 hB17 g17 hg17
 have fB17 := hB17.f fB16
 have z17 := hB17.below.size
 have fA17 := hB17.f fA16
 have b17_7 := hB17.b b16_7
 have q125' := (q122'.below hB17.below)
 have q126' := (q123'.below hB17.below)
 have q127' := (q124'.below hB17.below)
 refine hK13 _ _ ?_
 have k17_5 := kt hg17 5 k16_5
 have k17_6 := kt hg17 6 k16_6
 have k17_7 := kt hg17 7 k16_7
 have k17_8 := kt hg17 8 k16_8
 have k17_9 := kt hg17 9 k16_9
 have k17_10 := kt hg17 10 k16_10
 have k17_11 := kt hg17 11 k16_11
 have k17_12 := kt hg17 12 k16_12
 have k17_13 := kt hg17 13 k16_13
 have k17_14 := kt hg17 14 k16_14
 have k17_15 := kt hg17 15 k16_15
 have k17_73 := kt hg17 73 k16_73
 have k17_74 := kt hg17 74 k16_74
 have k17_16 := kt hg17 16 k16_16
 have k17_64 := kt hg17 64 (hB17.is 1)
 refine wp_cond_true ((fr_eval rfl).trans k17_64) ?_
 refine wp_skip ?_
 refine hK12 _ _ ?_
 refine wp_seq_k fun K15 hK15 => ?_
 refine wp_block ?_
 as_aux_lemma =>
 refine region_dk 8 [(67, 0), (68, 1), (69, 2), (70, 3), (71, 4), (72, 5), (73, 6), (74, 7)] [[], [0], [], [0, 1, 2], [0, 1, 2, 3], [], [0, 1, 2, 3, 4, 5], [0, 1, 2, 3, 4, 5, 6], [0, 1, 2, 3, 4, 5, 6, 7]] (rel [is (.pointer (some ⟨(s10 2), 1, none⟩)),
   is (.slice (some ⟨g93', 0, none⟩) (4) (c96')),
   is (.int .i64 1),
   is (.pointer (some ⟨g93', 1, none⟩)),
   is (.int .i64 p1),
   is (.int .i64 mo),
   is (.int .i64 (p1 + mo)),
   is (.pointer (some ⟨g93', 1, none⟩))])
  ⟨is_k, is_k, is_k, is_k, is_k, is_k, is_k, is_k, trivial⟩
  ⟨fun f s W j l m n p a => opv rfl rfl (by simp [go_sem, a.e 15 k17_15]) rfl,
  fun f s W j l m n p a => opv rfl rfl (by simp [go_sem, a.e 67 (l 0 rfl), cb b17_7 j 1]) rfl,
  fun f s W j l m n p a => opv rfl rfl (by simp [go_sem, a.e 16 k17_16]) rfl,
  fun f s W j l m n p a => opv rfl rfl (by simp [go_sem, a.e 68 (l 1 rfl), a.e 69 (l 2 rfl)]) rfl,
  fun f s W j l m n p a => by have u4_ : W.cell? ⟨g93', 1, none⟩ = some (.int .i64 (p1)) := (OwnI.cell ((q127'.below j)) (i := 1) (by simp)); exact opv rfl rfl (by simp [go_sem, a.e 70 (l 3 rfl), u4_]) rfl,
  fun f s W j l m n p a => opv rfl rfl (by simp [go_sem, a.e 14 k17_14]) rfl,
  fun f s W j l m n p a => opv rfl rfl (by simp [go_sem, a.e 71 (l 4 rfl), a.e 72 (l 5 rfl), IntWalk.i64_in (p1 + mo) (by omega)]) rfl,
  fun f s W j l m n p a => opv rfl rfl (by simp [go_sem, a.e 68 (l 1 rfl), a.e 69 (l 2 rfl)]) rfl, trivial⟩ ?_
 intro f18 s18 W18 hB18 g18 hg18
 have fB18 := hB18.f fB17
 have z18 := hB18.below.size
 have fA18 := hB18.f fA17
 have b18_7 := hB18.b b17_7
 have q128' := (q125'.below hB18.below)
 have q129' := (q126'.below hB18.below)
 have q130' := (q127'.below hB18.below)
 have k18_5 := kt hg18 5 k17_5
 have k18_6 := kt hg18 6 k17_6
 have k18_7 := kt hg18 7 k17_7
 have k18_8 := kt hg18 8 k17_8
 have k18_9 := kt hg18 9 k17_9
 have k18_10 := kt hg18 10 k17_10
 have k18_11 := kt hg18 11 k17_11
 have k18_12 := kt hg18 12 k17_12
 have k18_13 := kt hg18 13 k17_13
 have k18_14 := kt hg18 14 k17_14
 have k18_15 := kt hg18 15 k17_15
 have k18_16 := kt hg18 16 k17_16
 have k18_64 := kt hg18 64 k17_64
 have k18_73 := kt hg18 73 (hB18.is 6)
 have k18_74 := kt hg18 74 (hB18.is 7)
 obtain ⟨W19, st19, ow19, ot19, z19, fB19, ax19⟩ := storeIA_tail (c := c96') (i := 1) (x := p1 + mo) ([p0 + mo, p1 + mo, p2, p3]) (by simp) rfl fB18 q130'
 refine tail_skip (o := _) rfl ⟨rfl, rfl⟩ (st19 (fr_ev k18_74) (fr_ev k18_73)) ?_
 have fA19 := ax19 _ fA18 (by omega)
 have b19_7 := ot19 _ _ (by first | assumption | exact Ne.symm (by assumption) | omega) b18_7
 have q131' := q128'.other ot19 (by first | assumption | exact Ne.symm (by assumption) | omega) z19
 have q132' := q129'.other ot19 (by first | assumption | exact Ne.symm (by assumption) | omega) z19
 refine wpOps_end ?_
 refine inBlock_normal ?_
 refine hK15 _ _ ?_
 as_aux_lemma =>
 refine region_dk 3 [(65, 0), (66, 1), (16, 2)] [[], [0], [0, 1]] (rel [is (.int .i64 1),
   is (.int .i64 2),
   is (.int .i64 2)])
  ⟨is_k, is_k, is_k, trivial⟩
  ⟨fun f s W j l m n p a => opv rfl rfl (by simp [go_sem, a.e 16 ((n 2 16 rfl rfl).trans k18_16)]) rfl,
  fun f s W j l m n p a => opv rfl rfl (by simp [go_sem, a.e 65 (l 0 rfl), IntWalk.i64_in (2) (by omega)]) rfl,
  fun f s W j l m n p a => opv rfl rfl (by simp [go_sem, a.e 66 (l 1 rfl)]) rfl, trivial⟩ ?_
 intro f20 s20 W20 hB20 g20 hg20
 have fB20 := hB20.f fB19
 have z20 := hB20.below.size
 have fA20 := hB20.f fA19
 have b20_7 := hB20.b b19_7
 have q133' := (q131'.below hB20.below)
 have q134' := (q132'.below hB20.below)
 have q135' := (ow19.below hB20.below)
 refine wpOps_end ?_
 have k20_5 := kt hg20 5 k18_5
 have k20_6 := kt hg20 6 k18_6
 have k20_7 := kt hg20 7 k18_7
 have k20_8 := kt hg20 8 k18_8
 have k20_9 := kt hg20 9 k18_9
 have k20_10 := kt hg20 10 k18_10
 have k20_11 := kt hg20 11 k18_11
 have k20_12 := kt hg20 12 k18_12
 have k20_13 := kt hg20 13 k18_13
 have k20_14 := kt hg20 14 k18_14
 have k20_15 := kt hg20 15 k18_15
 have k20_64 := kt hg20 64 k18_64
 have k20_73 := kt hg20 73 k18_73
 have k20_74 := kt hg20 74 k18_74
 have k20_16 := kt hg20 16 (hB20.is 2)
 refine then_normal ?_
 rw [rounds_succ]
 refine wp_seq_k fun K16 hK16 => ?_
 refine wp_seq_k fun K17 hK17 => ?_
 as_aux_lemma =>
 refine region_dk 2 [(63, 0), (64, 1)] [[], [0]] (rel [is (.int .i64 2),
   is (.bool true)])
  ⟨is_k, is_k, trivial⟩
  ⟨fun f s W j l m n p a => opv rfl rfl (by simp [go_sem, a.e 16 k20_16]) rfl,
  fun f s W j l m n p a => opv rfl rfl (by simp [go_sem, a.e 63 (l 0 rfl)]) rfl, trivial⟩ ?_
 intro f21 s21 W21 hB21 g21 hg21
 have fB21 := hB21.f fB20
 have z21 := hB21.below.size
 have fA21 := hB21.f fA20
 have b21_7 := hB21.b b20_7
 have q136' := (q133'.below hB21.below)
 have q137' := (q134'.below hB21.below)
 have q138' := (q135'.below hB21.below)
 refine hK17 _ _ ?_
 have k21_5 := kt hg21 5 k20_5
 have k21_6 := kt hg21 6 k20_6
 have k21_7 := kt hg21 7 k20_7
 have k21_8 := kt hg21 8 k20_8
 have k21_9 := kt hg21 9 k20_9
 have k21_10 := kt hg21 10 k20_10
 have k21_11 := kt hg21 11 k20_11
 have k21_12 := kt hg21 12 k20_12
 have k21_13 := kt hg21 13 k20_13
 have k21_14 := kt hg21 14 k20_14
 have k21_15 := kt hg21 15 k20_15
 have k21_73 := kt hg21 73 k20_73
 have k21_74 := kt hg21 74 k20_74
 have k21_16 := kt hg21 16 k20_16
 have k21_64 := kt hg21 64 (hB21.is 1)
 refine wp_cond_true ((fr_eval rfl).trans k21_64) ?_
 refine wp_skip ?_
 refine hK16 _ _ ?_
 refine wp_seq_k fun K19 hK19 => ?_
 refine wp_block ?_
 as_aux_lemma =>
 refine region_dk 8 [(67, 0), (68, 1), (69, 2), (70, 3), (71, 4), (72, 5), (73, 6), (74, 7)] [[], [0], [], [0, 1, 2], [0, 1, 2, 3], [], [0, 1, 2, 3, 4, 5], [0, 1, 2, 3, 4, 5, 6], [0, 1, 2, 3, 4, 5, 6, 7]] (rel [is (.pointer (some ⟨(s10 2), 1, none⟩)),
   is (.slice (some ⟨g93', 0, none⟩) (4) (c96')),
   is (.int .i64 2),
   is (.pointer (some ⟨g93', 2, none⟩)),
   is (.int .i64 p2),
   is (.int .i64 mo),
   is (.int .i64 (p2 + mo)),
   is (.pointer (some ⟨g93', 2, none⟩))])
  ⟨is_k, is_k, is_k, is_k, is_k, is_k, is_k, is_k, trivial⟩
  ⟨fun f s W j l m n p a => opv rfl rfl (by simp [go_sem, a.e 15 k21_15]) rfl,
  fun f s W j l m n p a => opv rfl rfl (by simp [go_sem, a.e 67 (l 0 rfl), cb b21_7 j 1]) rfl,
  fun f s W j l m n p a => opv rfl rfl (by simp [go_sem, a.e 16 k21_16]) rfl,
  fun f s W j l m n p a => opv rfl rfl (by simp [go_sem, a.e 68 (l 1 rfl), a.e 69 (l 2 rfl)]) rfl,
  fun f s W j l m n p a => by have u4_ : W.cell? ⟨g93', 2, none⟩ = some (.int .i64 (p2)) := (OwnI.cell ((q138'.below j)) (i := 2) (by simp)); exact opv rfl rfl (by simp [go_sem, a.e 70 (l 3 rfl), u4_]) rfl,
  fun f s W j l m n p a => opv rfl rfl (by simp [go_sem, a.e 14 k21_14]) rfl,
  fun f s W j l m n p a => opv rfl rfl (by simp [go_sem, a.e 71 (l 4 rfl), a.e 72 (l 5 rfl), IntWalk.i64_in (p2 + mo) (by omega)]) rfl,
  fun f s W j l m n p a => opv rfl rfl (by simp [go_sem, a.e 68 (l 1 rfl), a.e 69 (l 2 rfl)]) rfl, trivial⟩ ?_
 intro f22 s22 W22 hB22 g22 hg22
 have fB22 := hB22.f fB21
 have z22 := hB22.below.size
 have fA22 := hB22.f fA21
 have b22_7 := hB22.b b21_7
 have q139' := (q136'.below hB22.below)
 have q140' := (q137'.below hB22.below)
 have q141' := (q138'.below hB22.below)
 have k22_5 := kt hg22 5 k21_5
 have k22_6 := kt hg22 6 k21_6
 have k22_7 := kt hg22 7 k21_7
 have k22_8 := kt hg22 8 k21_8
 have k22_9 := kt hg22 9 k21_9
 have k22_10 := kt hg22 10 k21_10
 have k22_11 := kt hg22 11 k21_11
 have k22_12 := kt hg22 12 k21_12
 have k22_13 := kt hg22 13 k21_13
 have k22_14 := kt hg22 14 k21_14
 have k22_15 := kt hg22 15 k21_15
 have k22_16 := kt hg22 16 k21_16
 have k22_64 := kt hg22 64 k21_64
 have k22_73 := kt hg22 73 (hB22.is 6)
 have k22_74 := kt hg22 74 (hB22.is 7)
 obtain ⟨W23, st23, ow23, ot23, z23, fB23, ax23⟩ := storeIA_tail (c := c96') (i := 2) (x := p2 + mo) ([p0 + mo, p1 + mo, p2 + mo, p3]) (by simp) rfl fB22 q141'
 refine tail_skip (o := _) rfl ⟨rfl, rfl⟩ (st23 (fr_ev k22_74) (fr_ev k22_73)) ?_
 have fA23 := ax23 _ fA22 (by omega)
 have b23_7 := ot23 _ _ (by first | assumption | exact Ne.symm (by assumption) | omega) b22_7
 have q142' := q139'.other ot23 (by first | assumption | exact Ne.symm (by assumption) | omega) z23
 have q143' := q140'.other ot23 (by first | assumption | exact Ne.symm (by assumption) | omega) z23
 refine wpOps_end ?_
 refine inBlock_normal ?_
 refine hK19 _ _ ?_
 as_aux_lemma =>
 refine region_dk 3 [(65, 0), (66, 1), (16, 2)] [[], [0], [0, 1]] (rel [is (.int .i64 2),
   is (.int .i64 3),
   is (.int .i64 3)])
  ⟨is_k, is_k, is_k, trivial⟩
  ⟨fun f s W j l m n p a => opv rfl rfl (by simp [go_sem, a.e 16 ((n 2 16 rfl rfl).trans k22_16)]) rfl,
  fun f s W j l m n p a => opv rfl rfl (by simp [go_sem, a.e 65 (l 0 rfl), IntWalk.i64_in (3) (by omega)]) rfl,
  fun f s W j l m n p a => opv rfl rfl (by simp [go_sem, a.e 66 (l 1 rfl)]) rfl, trivial⟩ ?_
 intro f24 s24 W24 hB24 g24 hg24
 have fB24 := hB24.f fB23
 have z24 := hB24.below.size
 have fA24 := hB24.f fA23
 have b24_7 := hB24.b b23_7
 have q144' := (q142'.below hB24.below)
 have q145' := (q143'.below hB24.below)
 have q146' := (ow23.below hB24.below)
 refine wpOps_end ?_
 have k24_5 := kt hg24 5 k22_5
 have k24_6 := kt hg24 6 k22_6
 have k24_7 := kt hg24 7 k22_7
 have k24_8 := kt hg24 8 k22_8
 have k24_9 := kt hg24 9 k22_9
 have k24_10 := kt hg24 10 k22_10
 have k24_11 := kt hg24 11 k22_11
 have k24_12 := kt hg24 12 k22_12
 have k24_13 := kt hg24 13 k22_13
 have k24_14 := kt hg24 14 k22_14
 have k24_15 := kt hg24 15 k22_15
 have k24_64 := kt hg24 64 k22_64
 have k24_73 := kt hg24 73 k22_73
 have k24_74 := kt hg24 74 k22_74
 have k24_16 := kt hg24 16 (hB24.is 2)
 refine then_normal ?_
 rw [rounds_succ]
 refine wp_seq_k fun K20 hK20 => ?_
 refine wp_seq_k fun K21 hK21 => ?_
 as_aux_lemma =>
 refine region_dk 2 [(63, 0), (64, 1)] [[], [0]] (rel [is (.int .i64 3),
   is (.bool true)])
  ⟨is_k, is_k, trivial⟩
  ⟨fun f s W j l m n p a => opv rfl rfl (by simp [go_sem, a.e 16 k24_16]) rfl,
  fun f s W j l m n p a => opv rfl rfl (by simp [go_sem, a.e 63 (l 0 rfl)]) rfl, trivial⟩ ?_
 intro f25 s25 W25 hB25 g25 hg25
 have fB25 := hB25.f fB24
 have z25 := hB25.below.size
 have fA25 := hB25.f fA24
 have b25_7 := hB25.b b24_7
 have q147' := (q144'.below hB25.below)
 have q148' := (q145'.below hB25.below)
 have q149' := (q146'.below hB25.below)
 refine hK21 _ _ ?_
 have k25_5 := kt hg25 5 k24_5
 have k25_6 := kt hg25 6 k24_6
 have k25_7 := kt hg25 7 k24_7
 have k25_8 := kt hg25 8 k24_8
 have k25_9 := kt hg25 9 k24_9
 have k25_10 := kt hg25 10 k24_10
 have k25_11 := kt hg25 11 k24_11
 have k25_12 := kt hg25 12 k24_12
 have k25_13 := kt hg25 13 k24_13
 have k25_14 := kt hg25 14 k24_14
 have k25_15 := kt hg25 15 k24_15
 have k25_73 := kt hg25 73 k24_73
 have k25_74 := kt hg25 74 k24_74
 have k25_16 := kt hg25 16 k24_16
 have k25_64 := kt hg25 64 (hB25.is 1)
 refine wp_cond_true ((fr_eval rfl).trans k25_64) ?_
 refine wp_skip ?_
 refine hK20 _ _ ?_
 refine wp_seq_k fun K23 hK23 => ?_
 refine wp_block ?_
 as_aux_lemma =>
 refine region_dk 8 [(67, 0), (68, 1), (69, 2), (70, 3), (71, 4), (72, 5), (73, 6), (74, 7)] [[], [0], [], [0, 1, 2], [0, 1, 2, 3], [], [0, 1, 2, 3, 4, 5], [0, 1, 2, 3, 4, 5, 6], [0, 1, 2, 3, 4, 5, 6, 7]] (rel [is (.pointer (some ⟨(s10 2), 1, none⟩)),
   is (.slice (some ⟨g93', 0, none⟩) (4) (c96')),
   is (.int .i64 3),
   is (.pointer (some ⟨g93', 3, none⟩)),
   is (.int .i64 p3),
   is (.int .i64 mo),
   is (.int .i64 (p3 + mo)),
   is (.pointer (some ⟨g93', 3, none⟩))])
  ⟨is_k, is_k, is_k, is_k, is_k, is_k, is_k, is_k, trivial⟩
  ⟨fun f s W j l m n p a => opv rfl rfl (by simp [go_sem, a.e 15 k25_15]) rfl,
  fun f s W j l m n p a => opv rfl rfl (by simp [go_sem, a.e 67 (l 0 rfl), cb b25_7 j 1]) rfl,
  fun f s W j l m n p a => opv rfl rfl (by simp [go_sem, a.e 16 k25_16]) rfl,
  fun f s W j l m n p a => opv rfl rfl (by simp [go_sem, a.e 68 (l 1 rfl), a.e 69 (l 2 rfl)]) rfl,
  fun f s W j l m n p a => by have u4_ : W.cell? ⟨g93', 3, none⟩ = some (.int .i64 (p3)) := (OwnI.cell ((q149'.below j)) (i := 3) (by simp)); exact opv rfl rfl (by simp [go_sem, a.e 70 (l 3 rfl), u4_]) rfl,
  fun f s W j l m n p a => opv rfl rfl (by simp [go_sem, a.e 14 k25_14]) rfl,
  fun f s W j l m n p a => opv rfl rfl (by simp [go_sem, a.e 71 (l 4 rfl), a.e 72 (l 5 rfl), IntWalk.i64_in (p3 + mo) (by omega)]) rfl,
  fun f s W j l m n p a => opv rfl rfl (by simp [go_sem, a.e 68 (l 1 rfl), a.e 69 (l 2 rfl)]) rfl, trivial⟩ ?_
 intro f26 s26 W26 hB26 g26 hg26
 have fB26 := hB26.f fB25
 have z26 := hB26.below.size
 have fA26 := hB26.f fA25
 have b26_7 := hB26.b b25_7
 have q150' := (q147'.below hB26.below)
 have q151' := (q148'.below hB26.below)
 have q152' := (q149'.below hB26.below)
 have k26_5 := kt hg26 5 k25_5
 have k26_6 := kt hg26 6 k25_6
 have k26_7 := kt hg26 7 k25_7
 have k26_8 := kt hg26 8 k25_8
 have k26_9 := kt hg26 9 k25_9
 have k26_10 := kt hg26 10 k25_10
 have k26_11 := kt hg26 11 k25_11
 have k26_12 := kt hg26 12 k25_12
 have k26_13 := kt hg26 13 k25_13
 have k26_14 := kt hg26 14 k25_14
 have k26_15 := kt hg26 15 k25_15
 have k26_16 := kt hg26 16 k25_16
 have k26_64 := kt hg26 64 k25_64
 have k26_73 := kt hg26 73 (hB26.is 6)
 have k26_74 := kt hg26 74 (hB26.is 7)
 obtain ⟨W27, st27, ow27, ot27, z27, fB27, ax27⟩ := storeIA_tail (c := c96') (i := 3) (x := p3 + mo) ([p0 + mo, p1 + mo, p2 + mo, p3 + mo]) (by simp) rfl fB26 q152'
 refine tail_skip (o := _) rfl ⟨rfl, rfl⟩ (st27 (fr_ev k26_74) (fr_ev k26_73)) ?_
 have fA27 := ax27 _ fA26 (by omega)
 have b27_7 := ot27 _ _ (by first | assumption | exact Ne.symm (by assumption) | omega) b26_7
 have q153' := q150'.other ot27 (by first | assumption | exact Ne.symm (by assumption) | omega) z27
 have q154' := q151'.other ot27 (by first | assumption | exact Ne.symm (by assumption) | omega) z27
 refine wpOps_end ?_
 refine inBlock_normal ?_
 refine hK23 _ _ ?_
 as_aux_lemma =>
 refine region_dk 3 [(65, 0), (66, 1), (16, 2)] [[], [0], [0, 1]] (rel [is (.int .i64 3),
   is (.int .i64 4),
   is (.int .i64 4)])
  ⟨is_k, is_k, is_k, trivial⟩
  ⟨fun f s W j l m n p a => opv rfl rfl (by simp [go_sem, a.e 16 ((n 2 16 rfl rfl).trans k26_16)]) rfl,
  fun f s W j l m n p a => opv rfl rfl (by simp [go_sem, a.e 65 (l 0 rfl), IntWalk.i64_in (4) (by omega)]) rfl,
  fun f s W j l m n p a => opv rfl rfl (by simp [go_sem, a.e 66 (l 1 rfl)]) rfl, trivial⟩ ?_
 intro f28 s28 W28 hB28 g28 hg28
 have fB28 := hB28.f fB27
 have z28 := hB28.below.size
 have fA28 := hB28.f fA27
 have b28_7 := hB28.b b27_7
 have q155' := (q153'.below hB28.below)
 have q156' := (q154'.below hB28.below)
 have q157' := (ow27.below hB28.below)
 refine wpOps_end ?_
 have k28_5 := kt hg28 5 k26_5
 have k28_6 := kt hg28 6 k26_6
 have k28_7 := kt hg28 7 k26_7
 have k28_8 := kt hg28 8 k26_8
 have k28_9 := kt hg28 9 k26_9
 have k28_10 := kt hg28 10 k26_10
 have k28_11 := kt hg28 11 k26_11
 have k28_12 := kt hg28 12 k26_12
 have k28_13 := kt hg28 13 k26_13
 have k28_14 := kt hg28 14 k26_14
 have k28_15 := kt hg28 15 k26_15
 have k28_64 := kt hg28 64 k26_64
 have k28_73 := kt hg28 73 k26_73
 have k28_74 := kt hg28 74 k26_74
 have k28_16 := kt hg28 16 (hB28.is 2)
 refine then_normal ?_
 rw [rounds_succ]
 refine wp_seq_k fun K24 hK24 => ?_
 refine wp_seq_k fun K25 hK25 => ?_
 as_aux_lemma =>
 refine region_dk 2 [(63, 0), (64, 1)] [[], [0]] (rel [is (.int .i64 4),
   is (.bool false)])
  ⟨is_k, is_k, trivial⟩
  ⟨fun f s W j l m n p a => opv rfl rfl (by simp [go_sem, a.e 16 k28_16]) rfl,
  fun f s W j l m n p a => opv rfl rfl (by simp [go_sem, a.e 63 (l 0 rfl)]) rfl, trivial⟩ ?_
 intro f29 s29 W29 hB29 g29 hg29
 have fB29 := hB29.f fB28
 have z29 := hB29.below.size
 have fA29 := hB29.f fA28
 have b29_7 := hB29.b b28_7
 have q158' := (q155'.below hB29.below)
 have q159' := (q156'.below hB29.below)
 have q160' := (q157'.below hB29.below)
 refine hK25 _ _ ?_
 have k29_5 := kt hg29 5 k28_5
 have k29_6 := kt hg29 6 k28_6
 have k29_7 := kt hg29 7 k28_7
 have k29_8 := kt hg29 8 k28_8
 have k29_9 := kt hg29 9 k28_9
 have k29_10 := kt hg29 10 k28_10
 have k29_11 := kt hg29 11 k28_11
 have k29_12 := kt hg29 12 k28_12
 have k29_13 := kt hg29 13 k28_13
 have k29_14 := kt hg29 14 k28_14
 have k29_15 := kt hg29 15 k28_15
 have k29_73 := kt hg29 73 k28_73
 have k29_74 := kt hg29 74 k28_74
 have k29_16 := kt hg29 16 k28_16
 have k29_64 := kt hg29 64 (hB29.is 1)
 refine wp_cond_false ((fr_eval rfl).trans k29_64) ?_
 refine wp_exit ?_
 refine then_exit ?_
 refine then_exit ?_
 refine inBlock_at ?_
 refine hK6 _ _ ?_
 have q161' := (q86'.below fA29)
 have q162' := (q87'.below fA29)
 have q163' := (q88'.below fA29)
 have q164' := (q89'.below fA29)
 have q165' := (q90'.below fA29)
 have q166' := (q91'.below fA29)
 have q167' := (q92'.below fA29 (Nat.le_refl _))
 have bl168' := blk_below b8_0 fA29
 have bl169' := blk_below b8_1 fA29
 have bl170' := blk_below b8_2 fA29
 have bl171' := blk_below b8_3 fA29
 have bl172' := blk_below b8_4 fA29
 have bl173' := blk_below b8_5 fA29
 have bl174' := blk_below b8_6 fA29
 exact over_main_c9 x y gx gy v0 v1 v2 v3 gv0 gv1 gv2 gv3 b d lg p0 p1 p2 p3 hh t0 t1 u0 u1 op alo ahi clo chi le mo th0 th1 th2 L M N w hbx hby hcx hcy hbl hlg hle hmo hckb hckd hcklg gp0 gp1 gp2 gp3 j1 j2 j3 jc1 jc2 jc3 hL hM hN hL4 hM4 hN4 hLle hLb hMi hNi n1b n2b n3b n1d n2d n3d hmb hth0 hth1 hth2 gth0 gth1 gth2 hs1 hs2 hs3 hs4 hs5 g29 W29 (s1 2) (s2 8) (s2 9) (s2 10) (s2 11) a82' c83' (s10 2) g93' g1' c4' g2' c5' g3' c6' g10' c13' g11' c14' g12' c15' g94' c97' g95' c98' c96' (s1 0) (s1 1) k29_5 k29_6 k29_7 k29_8 k29_9 k29_10 k29_11 k29_12 k29_13 k29_14 k29_15 fB29 bl168' bl169' bl170' bl171' bl172' bl173' bl174' b29_7 q161' q162' q163' q164' q165' q166' q167' q158' q159' q160' (by omega) (by omega) (by omega) (by omega) (by omega) (by omega) (by omega) (by omega) (by first | assumption | exact Ne.symm (by assumption) | omega) (by first | assumption | exact Ne.symm (by assumption) | omega) (by first | assumption | exact Ne.symm (by assumption) | omega) (by first | assumption | exact Ne.symm (by assumption) | omega) (by first | assumption | exact Ne.symm (by assumption) | omega) (by first | assumption | exact Ne.symm (by assumption) | omega) (by first | assumption | exact Ne.symm (by assumption) | omega) (by first | assumption | exact Ne.symm (by assumption) | omega) (by first | assumption | exact Ne.symm (by assumption) | omega) (by first | assumption | exact Ne.symm (by assumption) | omega) (by first | assumption | exact Ne.symm (by assumption) | omega) (by first | assumption | exact Ne.symm (by assumption) | omega) (by first | assumption | exact Ne.symm (by assumption) | omega) (by first | assumption | exact Ne.symm (by assumption) | omega) (by first | assumption | exact Ne.symm (by assumption) | omega) (by first | assumption | exact Ne.symm (by assumption) | omega) (by first | assumption | exact Ne.symm (by assumption) | omega) (by first | assumption | exact Ne.symm (by assumption) | omega) (by first | assumption | exact Ne.symm (by assumption) | omega) (by first | assumption | exact Ne.symm (by assumption) | omega) (by first | assumption | exact Ne.symm (by assumption) | omega) (by first | assumption | exact Ne.symm (by assumption) | omega) (by first | assumption | exact Ne.symm (by assumption) | omega) (by first | assumption | exact Ne.symm (by assumption) | omega) (by first | assumption | exact Ne.symm (by assumption) | omega) (by first | assumption | exact Ne.symm (by assumption) | omega) (by first | assumption | exact Ne.symm (by assumption) | omega) (by first | assumption | exact Ne.symm (by assumption) | omega) (by first | assumption | exact Ne.symm (by assumption) | omega) (by first | assumption | exact Ne.symm (by assumption) | omega) (by first | assumption | exact Ne.symm (by assumption) | omega) (by first | assumption | exact Ne.symm (by assumption) | omega) (by first | assumption | exact Ne.symm (by assumption) | omega) (by first | assumption | exact Ne.symm (by assumption) | omega) (by first | assumption | exact Ne.symm (by assumption) | omega) (by first | assumption | exact Ne.symm (by assumption) | omega) (by first | assumption | exact Ne.symm (by assumption) | omega) (by first | assumption | exact Ne.symm (by assumption) | omega) (by first | assumption | exact Ne.symm (by assumption) | omega) (by first | assumption | exact Ne.symm (by assumption) | omega) (by first | assumption | exact Ne.symm (by assumption) | omega) (by first | assumption | exact Ne.symm (by assumption) | omega) (by first | assumption | exact Ne.symm (by assumption) | omega) (by first | assumption | exact Ne.symm (by assumption) | omega) (by first | assumption | exact Ne.symm (by assumption) | omega) (by first | assumption | exact Ne.symm (by assumption) | omega) (by first | assumption | exact Ne.symm (by assumption) | omega) (by first | assumption | exact Ne.symm (by assumption) | omega) (by first | assumption | exact Ne.symm (by assumption) | omega) (by first | assumption | exact Ne.symm (by assumption) | omega) (by first | assumption | exact Ne.symm (by assumption) | omega) (by first | assumption | exact Ne.symm (by assumption) | omega) (by first | assumption | exact Ne.symm (by assumption) | omega) (by first | assumption | exact Ne.symm (by assumption) | omega) (by first | assumption | exact Ne.symm (by assumption) | omega)
end Go.Proofs.Ythnediamopehfaa
