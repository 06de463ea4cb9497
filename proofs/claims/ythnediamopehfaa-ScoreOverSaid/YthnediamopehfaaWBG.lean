/- Part of the proof: what the claim leans on. -/
import Derived.Test.YthnediamopehfaaWBF
set_option linter.unusedSimpArgs false
set_option linter.unusedVariables false
namespace Go.Proofs.Ythnediamopehfaa
open Go.RowKit
set_option maxRecDepth 100000 in
set_option maxHeartbeats 40000000 in
theorem over_main_c9 (x y : Sh) (gx : ShIn x) (gy : ShIn y) (v0 v1 v2 v3 : Int) (gv0 : 0 ≤ v0 ∧ v0 ≤ 255) (gv1 : 0 ≤ v1 ∧ v1 ≤ 255) (gv2 : 0 ≤ v2 ∧ v2 ≤ 255) (gv3 : 0 ≤ v3 ∧ v3 ≤ 255) (b d lg : Bl) (p0 p1 p2 p3 hh t0 t1 u0 u1 : Int) (op : Bool) (alo ahi clo chi le mo th0 th1 th2 : Int) (L M N : List Sp) (w : World) (hbx : shBl x = b) (hby : shBl y = d) (hcx : shCal x = (alo, ahi)) (hcy : shCal y = (clo, chi)) (hbl : b = ⟨30, [p0, p1, p2, p3], hh, [t0, t1], [u0, u1], 9, op⟩) (hlg : lg = ⟨30, [p0 + mo, p1 + mo, p2 + mo, p3 + mo], hh, [t0, t1], [u0, u1], 9, op⟩) (hle : v0 % 100 = le) (hmo : v1 % 40 = mo) (hckb : checkErr b = 0) (hckd : checkErr d = 0) (hcklg : checkErr lg = 0) (gp0 : 1 ≤ p0 ∧ p0 ≤ 400) (gp1 : 1 ≤ p1 ∧ p1 ≤ 400) (gp2 : 1 ≤ p2 ∧ p2 ≤ 400) (gp3 : 1 ≤ p3 ∧ p3 ≤ 400) (j1 : 200 ≤ alo) (j2 : alo ≤ ahi) (j3 : ahi ≤ 10000) (jc1 : 200 ≤ clo) (jc2 : clo ≤ chi) (jc3 : chi ≤ 10000) (hL : playL b d (alo, ahi) (clo, chi) = L) (hM : playL lg d (alo - le, ahi - le) (clo, chi) = M) (hN : playL b d (alo, ahi) (clo - le, chi - le) = N) (hL4 : L.length = 4) (hM4 : M.length = 4) (hN4 : N.length = 4) (hLle : ∀ i, i < 4 → ¬ (nthP L i).2 < (nthP L i).1) (hLb : ∀ i, i < 4 → (-1000000000 ≤ (nthP L i).1 ∧ (nthP L i).1 ≤ 1000000000) ∧ (-1000000000 ≤ (nthP L i).2 ∧ (nthP L i).2 ≤ 1000000000)) (hMi : ∀ i, i < 4 → nthP M i = (((nthP L i).1 + le) + (1000 * mo), ((nthP L i).2 + le) + (1000 * mo))) (hNi : ∀ i, i < 4 → nthP N i = ((nthP L i).1 + le, (nthP L i).2 + le)) (n1b : b.panels.length ≤ 1000) (n2b : b.top.length ≤ 1000) (n3b : b.bottom.length ≤ 1000) (n1d : d.panels.length ≤ 1000) (n2d : d.top.length ≤ 1000) (n3d : d.bottom.length ≤ 1000) (hmb : ∀ k, k < 5 → 0 ≤ mic b ahi k ∧ mic b ahi k ≤ 3000000) (hth0 : dn (min (mic b ahi 0) (mic b ahi 2)) = th0) (hth1 : dn (min (mic b ahi 1) (mic b ahi 3)) = th1) (hth2 : dn (mic b ahi 4) = th2) (gth0 : 0 ≤ th0 ∧ th0 ≤ 2000) (gth1 : 0 ≤ th1 ∧ th1 ≤ 2000) (gth2 : 0 ≤ th2 ∧ th2 ≤ 2000) (hs1 : insideB b ahi th0 th1 th2 = true) (hs2 : insideB b alo th0 th1 th2 = true) (hs3 : insideB b ahi th2 (max 0 (th0 - v2)) (max 0 (th1 - v3)) = true) (hs4 : insideB b (alo - le) th2 (max 0 (th0 - v2)) (max 0 (th1 - v3)) = true) (hs5 : insideB b ahi (th0 + 1) (th1 + 1) (th2 + 1) = false) (gz_ : Nat → Value) (Wz_ : World) (bk0 : Nat) (bk1 : Nat) (bk2 : Nat) (bk3 : Nat) (bk4 : Nat) (a82' : Option Addr) (c83' : Nat) (bk5 : Nat) (g93' : Nat) (g1' : Nat) (c4' : Nat) (g2' : Nat) (c5' : Nat) (g3' : Nat) (c6' : Nat) (g10' : Nat) (c13' : Nat) (g11' : Nat) (c14' : Nat) (g12' : Nat) (c15' : Nat) (g94' : Nat) (c97' : Nat) (g95' : Nat) (c98' : Nat) (c96' : Nat) (bk6 : Nat) (bk7 : Nat)  (k_5 : gz_ 5 = .pointer (some ⟨bk0, 0, none⟩)) (k_6 : gz_ 6 = .bool false) (k_7 : gz_ 7 = .pointer (some ⟨bk1, 0, none⟩)) (k_8 : gz_ 8 = .pointer (some ⟨bk2, 0, none⟩)) (k_9 : gz_ 9 = .pointer (some ⟨bk3, 0, none⟩)) (k_10 : gz_ 10 = .pointer (some ⟨bk4, 0, none⟩)) (k_11 : gz_ 11 = .slice (a82') (L.length) (c83')) (k_12 : gz_ 12 = .int .i64 0) (k_13 : gz_ 13 = .int .i64 le) (k_14 : gz_ 14 = .int .i64 mo) (k_15 : gz_ 15 = .pointer (some ⟨bk5, 0, none⟩)) (fB_ : Below w.heap.size w Wz_) (bl_0 : Wz_.heap[bk6]? = some (.cells #[.int .u8 x.x0, .int .u8 x.x1, .int .u8 x.x2, .int .u8 x.x3, .int .u8 x.xh, .int .u8 x.y0, .int .u8 x.y1, .int .u8 x.y2, .int .u8 x.y3, .bool x.xo, .int .u8 x.ca, .int .u8 x.cb, .int .u8 x.v0, .int .u8 x.v1, .int .u8 x.v2, .int .u8 x.v3, .int .u8 x.v4] 56 (0, 0))) (bl_1 : Wz_.heap[bk7]? = some (.cells #[.int .u8 y.x0, .int .u8 y.x1, .int .u8 y.x2, .int .u8 y.x3, .int .u8 y.xh, .int .u8 y.y0, .int .u8 y.y1, .int .u8 y.y2, .int .u8 y.y3, .bool y.xo, .int .u8 y.ca, .int .u8 y.cb, .int .u8 y.v0, .int .u8 y.v1, .int .u8 y.v2, .int .u8 y.v3, .int .u8 y.v4] 56 (0, 0))) (bl_2 : Wz_.heap[bk0]? = some (.cells #[.int .u8 v0, .int .u8 v1, .int .u8 v2, .int .u8 v3] 52 (0, 0))) (bl_3 : Wz_.heap[bk1]? = some (.cells #[.int .i64 b.tab, .slice (some ⟨g1', 0, none⟩) (b.panels.length) (c4'), .int .i64 b.height, .slice (some ⟨g2', 0, none⟩) (b.top.length) (c5'), .slice (some ⟨g3', 0, none⟩) (b.bottom.length) (c6'), .int .i64 b.slot, .bool b.isOpen] 24 (0, 0))) (bl_4 : Wz_.heap[bk2]? = some (.cells #[.int .i64 d.tab, .slice (some ⟨g10', 0, none⟩) (d.panels.length) (c13'), .int .i64 d.height, .slice (some ⟨g11', 0, none⟩) (d.top.length) (c14'), .slice (some ⟨g12', 0, none⟩) (d.bottom.length) (c15'), .int .i64 d.slot, .bool d.isOpen] 24 (0, 0))) (bl_5 : Wz_.heap[bk3]? = some (.cells #[.int .i64 alo, .int .i64 ahi] 37 (0, 0))) (bl_6 : Wz_.heap[bk4]? = some (.cells #[.int .i64 clo, .int .i64 chi] 37 (0, 0))) (bl_7 : Wz_.heap[bk5]? = some (.cells #[.int .i64 30, .slice (some ⟨g93', 0, none⟩) (4) (c96'), .int .i64 hh, .slice (some ⟨g94', 0, none⟩) (2) (c97'), .slice (some ⟨g95', 0, none⟩) (2) (c98'), .int .i64 9, .bool op] 24 (0, 0))) (ft_0 : OwnI 0 b.panels g1' c4' Wz_) (ft_1 : OwnI 0 b.top g2' c5' Wz_) (ft_2 : OwnI 0 b.bottom g3' c6' Wz_) (ft_3 : OwnI 0 d.panels g10' c13' Wz_) (ft_4 : OwnI 0 d.top g11' c14' Wz_) (ft_5 : OwnI 0 d.bottom g12' c15' Wz_) (ft_6 : Pp Wz_ a82' L.length c83' L) (ft_7 : OwnI w.heap.size ([t0, t1]) g94' c97' Wz_) (ft_8 : OwnI w.heap.size ([u0, u1]) g95' c98' Wz_) (ft_9 : OwnI w.heap.size ([p0 + mo, p1 + mo, p2 + mo, p3 + mo]) g93' c96' Wz_) (lw_bk6 : w.heap.size ≤ bk6) (lw_bk7 : w.heap.size ≤ bk7) (lw_bk0 : w.heap.size ≤ bk0) (lw_bk1 : w.heap.size ≤ bk1) (lw_bk2 : w.heap.size ≤ bk2) (lw_bk3 : w.heap.size ≤ bk3) (lw_bk4 : w.heap.size ≤ bk4) (lw_bk5 : w.heap.size ≤ bk5) (ne_0_1 : bk6 ≠ bk7) (ne_0_2 : bk6 ≠ bk0) (ne_1_2 : bk7 ≠ bk0) (ne_0_3 : bk6 ≠ bk1) (ne_1_3 : bk7 ≠ bk1) (ne_2_3 : bk0 ≠ bk1) (ne_0_4 : bk6 ≠ bk2) (ne_1_4 : bk7 ≠ bk2) (ne_2_4 : bk0 ≠ bk2) (ne_3_4 : bk1 ≠ bk2) (ne_0_5 : bk6 ≠ bk3) (ne_1_5 : bk7 ≠ bk3) (ne_2_5 : bk0 ≠ bk3) (ne_3_5 : bk1 ≠ bk3) (ne_4_5 : bk2 ≠ bk3) (ne_0_6 : bk6 ≠ bk4) (ne_1_6 : bk7 ≠ bk4) (ne_2_6 : bk0 ≠ bk4) (ne_3_6 : bk1 ≠ bk4) (ne_4_6 : bk2 ≠ bk4) (ne_5_6 : bk3 ≠ bk4) (ne_0_7 : bk6 ≠ bk5) (ne_1_7 : bk7 ≠ bk5) (ne_2_7 : bk0 ≠ bk5) (ne_3_7 : bk1 ≠ bk5) (ne_4_7 : bk2 ≠ bk5) (ne_5_7 : bk3 ≠ bk5) (ne_6_7 : bk4 ≠ bk5) (ne_0_8 : bk6 ≠ g94') (ne_1_8 : bk7 ≠ g94') (ne_2_8 : bk0 ≠ g94') (ne_3_8 : bk1 ≠ g94') (ne_4_8 : bk2 ≠ g94') (ne_5_8 : bk3 ≠ g94') (ne_6_8 : bk4 ≠ g94') (ne_7_8 : bk5 ≠ g94') (ne_0_9 : bk6 ≠ g95') (ne_1_9 : bk7 ≠ g95') (ne_2_9 : bk0 ≠ g95') (ne_3_9 : bk1 ≠ g95') (ne_4_9 : bk2 ≠ g95') (ne_5_9 : bk3 ≠ g95') (ne_6_9 : bk4 ≠ g95') (ne_7_9 : bk5 ≠ g95') (ne_8_9 : g94' ≠ g95') (ne_0_10 : bk6 ≠ g93') (ne_1_10 : bk7 ≠ g93') (ne_2_10 : bk0 ≠ g93') (ne_3_10 : bk1 ≠ g93') (ne_4_10 : bk2 ≠ g93') (ne_5_10 : bk3 ≠ g93') (ne_6_10 : bk4 ≠ g93') (ne_7_10 : bk5 ≠ g93') (ne_8_10 : g94' ≠ g93') (ne_9_10 : g95' ≠ g93') :
  (tailC 6 (bodyC Try.f6)).wp Try.prog (bodyPost Try.prog Try.f6 (fun e w' => e = .returned (.bool true) ∧ Below w.heap.size w w')) (fr 334 gz_) Wz_ := by
 have hL4z : ((L.length : Int) != 4) = false := by rw [hL4]; rfl
 have hM4z : ((M.length : Int) != 4) = false := by rw [hM4]; rfl
 have hN4z : ((N.length : Int) != 4) = false := by rw [hN4]; rfl
 have hg0 := Int.not_lt.2 gth0.1
 have hg1 := Int.not_lt.2 gth1.1
 have hg2 := Int.not_lt.2 gth2.1
 have hmb0 := hmb 0 (by decide)
 have hmb1 := hmb 1 (by decide)
 have hmb2 := hmb 2 (by decide)
 have hmb3 := hmb 3 (by decide)
 have hmb4 := hmb 4 (by decide)
 have gle : 0 ≤ le ∧ le < 100 := by omega
 have gmo : 0 ≤ mo ∧ mo < 40 := by omega
 have lt_bk6 := lt_of_blk bl_0
 have lt_bk7 := lt_of_blk bl_1
 have lt_bk0 := lt_of_blk bl_2
 have lt_bk1 := lt_of_blk bl_3
 have lt_bk2 := lt_of_blk bl_4
 have lt_bk3 := lt_of_blk bl_5
 have lt_bk4 := lt_of_blk bl_6
 have lt_bk5 := lt_of_blk bl_7
 have lim175' := Pp.lim ft_6
 have lo_ft_7 := ft_7.lim
 have lo_ft_8 := ft_8.lim
 have lo_ft_9 := ft_9.lim
 have fA30 : Below Wz_.heap.size Wz_ Wz_ := Below.refl _ _
 refine wp_seq_k fun K27 hK27 => ?_
 as_aux_lemma =>
 refine region_dk 20 [(76, 0), (77, 1), (78, 2), (79, 3), (80, 4), (81, 5), (82, 6), (83, 7), (84, 8), (85, 9), (86, 10), (87, 11), (88, 12), (89, 13), (90, 14), (75, 15), (91, 16), (92, 17), (17, 18), (18, 19)] [[], [0], [], [0, 1, 2], [], [4], [], [4, 5, 6], [], [8], [], [8, 9, 10], [0, 1, 2, 3, 4, 5, 6, 7, 8, 9, 10, 11], [], [0, 1, 2, 3, 4, 5, 6, 7, 8, 9, 10, 11, 12, 13], [0, 1, 2, 3, 4, 5, 6, 7, 8, 9, 10, 11, 12, 13, 14], [0, 1, 2, 3, 4, 5, 6, 7, 8, 9, 10, 11, 12, 13, 14, 15], [0, 1, 2, 3, 4, 5, 6, 7, 8, 9, 10, 11, 12, 13, 14, 15], [0, 1, 2, 3, 4, 5, 6, 7, 8, 9, 10, 11, 12, 13, 14, 15, 16], [0, 1, 2, 3, 4, 5, 6, 7, 8, 9, 10, 11, 12, 13, 14, 15, 16, 17, 18]] (rel [is (.agg #[.int .i64 30, .slice (some ⟨g93', 0, none⟩) (4) (c96'), .int .i64 hh, .slice (some ⟨g94', 0, none⟩) (2) (c97'), .slice (some ⟨g95', 0, none⟩) (2) (c98'), .int .i64 9, .bool op]),
   fun v s W => NwBlk (s 1) (lg) v W,
   is (.agg #[.int .i64 d.tab, .slice (some ⟨g10', 0, none⟩) (d.panels.length) (c13'), .int .i64 d.height, .slice (some ⟨g11', 0, none⟩) (d.top.length) (c14'), .slice (some ⟨g12', 0, none⟩) (d.bottom.length) (c15'), .int .i64 d.slot, .bool d.isOpen]),
   fun v s W => NwBlk (s 3) (d) v W,
   is (.pointer (some ⟨bk3, 0, none⟩)),
   is (.int .i64 alo),
   is (.int .i64 le),
   is (.int .i64 (alo - le)),
   is (.pointer (some ⟨bk3, 1, none⟩)),
   is (.int .i64 ahi),
   is (.int .i64 le),
   is (.int .i64 (ahi - le)),
   is (.agg #[.int .i64 (alo - le), .int .i64 (ahi - le)]),
   is (.agg #[.int .i64 clo, .int .i64 chi]),
   ab fun v W => ∃ x0, v = .tuple #[x0, .int .i64 0] ∧ IsPp M x0 W,
   ab fun v W => ∃ x0, v = .tuple #[x0, .int .i64 0] ∧ IsPp M x0 W,
   ab fun v W => IsPp M v W,
   is (.int .i64 0),
   ab fun v W => IsPp M v W,
   is (.int .i64 0)])
  ⟨is_k, ⟨fun v k W W' hb h => h.below hb, fun v s s' W e h => by have h' : NwBlk (s 1) (lg) v W := h; show NwBlk (s' 1) (lg) v W; rw [← e 1 (by simp)]; exact h'⟩, is_k, ⟨fun v k W W' hb h => h.below hb, fun v s s' W e h => by have h' : NwBlk (s 3) (d) v W := h; show NwBlk (s' 3) (d) v W; rw [← e 3 (by simp)]; exact h'⟩, is_k, is_k, is_k, is_k, is_k, is_k, is_k, is_k, is_k, is_k, ab_k fun v W W' hb ⟨x0, e, h0⟩ => ⟨x0, e, h0.below hb⟩, ab_k fun v W W' hb ⟨x0, e, h0⟩ => ⟨x0, e, h0.below hb⟩, ab_k fun v W W' hb h => h.below hb, is_k, ab_k fun v W W' hb h => h.below hb, is_k, trivial⟩
  ⟨fun f s W g j l m n a => by have aW := below_trans fA30 g; exact opl rfl rfl rfl (a.v 15 k_15) (blk_below bl_7 aW) Try.underlying24 rfl (by kernel_rfl) rfl,
  fun f s W g j l m n a => by have aW := below_trans fA30 g; exact opDo_call (args := #[.agg #[.int .i64 30, .slice (some ⟨g93', 0, none⟩) (4) (c96'), .int .i64 hh, .slice (some ⟨g94', 0, none⟩) (2) (c97'), .slice (some ⟨g95', 0, none⟩) (2) (c98'), .int .i64 9, .bool op]]) rfl rfl (by simp [go_sem, a.e 76 (j 0 rfl)]) (own_lg hlg _ _ _ _ _ _ W ((ft_9.below aW)).ii ((ft_7.below aW)).ii ((ft_8.below aW)).ii) (fun e W' h => by obtain ⟨v, e1, h1, h2⟩ := h; exact ⟨v, e1, h2, (show NwBlk (upd s 1 W.heap.size 1) (lg) v W' from by rw [upd_at]; exact h1)⟩),
  fun f s W g j l m n a => by have aW := below_trans fA30 g; exact opl rfl rfl rfl (a.v 8 k_8) (blk_below bl_4 aW) Try.underlying24 rfl (by kernel_rfl) rfl,
  fun f s W g j l m n a => by have aW := below_trans fA30 g; exact opDo_call (args := #[.agg #[.int .i64 d.tab, .slice (some ⟨g10', 0, none⟩) (d.panels.length) (c13'), .int .i64 d.height, .slice (some ⟨g11', 0, none⟩) (d.top.length) (c14'), .slice (some ⟨g12', 0, none⟩) (d.bottom.length) (c15'), .int .i64 d.slot, .bool d.isOpen]]) rfl rfl (by simp [go_sem, a.e 78 (j 2 rfl)]) (own_any _ _ _ _ _ _ d W ((ft_3.below aW)).ii ((ft_4.below aW)).ii ((ft_5.below aW)).ii n1d n2d n3d) (fun e W' h => by obtain ⟨v, e1, h1, h2⟩ := h; exact ⟨v, e1, h2, (show NwBlk (upd s 3 W.heap.size 3) (d) v W' from by rw [upd_at]; exact h1)⟩),
  fun f s W g j l m n a => opv rfl rfl (by simp [go_sem, a.e 9 k_9]) rfl,
  fun f s W g j l m n a => by have aW := below_trans fA30 g; exact opv rfl rfl (by simp [go_sem, a.e 80 (j 4 rfl), cb bl_5 aW 0]) rfl,
  fun f s W g j l m n a => opv rfl rfl (by simp [go_sem, a.e 13 k_13]) rfl,
  fun f s W g j l m n a => opv rfl rfl (by simp [go_sem, a.e 81 (j 5 rfl), a.e 82 (j 6 rfl), IntWalk.i64_in (alo - le) (by omega)]) rfl,
  fun f s W g j l m n a => opv rfl rfl (by simp [go_sem, a.e 9 k_9]) rfl,
  fun f s W g j l m n a => by have aW := below_trans fA30 g; exact opv rfl rfl (by simp [go_sem, a.e 84 (j 8 rfl), cb bl_5 aW 1]) rfl,
  fun f s W g j l m n a => opv rfl rfl (by simp [go_sem, a.e 13 k_13]) rfl,
  fun f s W g j l m n a => opv rfl rfl (by simp [go_sem, a.e 85 (j 9 rfl), a.e 86 (j 10 rfl), IntWalk.i64_in (ahi - le) (by omega)]) rfl,
  fun f s W g j l m n a => opc rfl rfl (by simp [go_sem, a.e 83 (j 7 rfl), a.e 87 (j 11 rfl)]) (span_any (alo - le) (ahi - le) W),
  fun f s W g j l m n a => by have aW := below_trans fA30 g; exact opv rfl rfl (by simp [go_sem, a.e 10 k_10, cb bl_6 aW 0, cb bl_6 aW 1]) rfl,
  fun f s W g j l m n a => by obtain ⟨g176', c179', g177', c180', g178', c181', d1, ⟨q182', q184', q183'⟩, ⟨q185', q187', q186'⟩, ⟨q188', q190', q189'⟩⟩ := (j 1 rfl); obtain ⟨g191', c194', g192', c195', g193', c196', d3, ⟨q197', q199', q198'⟩, ⟨q200', q202', q201'⟩, ⟨q203', q205', q204'⟩⟩ := (j 3 rfl); exact opDo_call (args := #[.agg #[.int .i64 lg.tab, .slice (some ⟨g176', 0, none⟩) (lg.panels.length) (c179'), .int .i64 lg.height, .slice (some ⟨g177', 0, none⟩) (lg.top.length) (c180'), .slice (some ⟨g178', 0, none⟩) (lg.bottom.length) (c181'), .int .i64 lg.slot, .bool lg.isOpen], .agg #[.int .i64 d.tab, .slice (some ⟨g191', 0, none⟩) (d.panels.length) (c194'), .int .i64 d.height, .slice (some ⟨g192', 0, none⟩) (d.top.length) (c195'), .slice (some ⟨g193', 0, none⟩) (d.bottom.length) (c196'), .int .i64 d.slot, .bool d.isOpen], .agg #[.int .i64 (alo - le), .int .i64 (ahi - le)], .agg #[.int .i64 clo, .int .i64 chi]]) rfl rfl (by simp [go_sem, a.e 77 d1, a.e 79 d3, a.e 88 (j 12 rfl), a.e 89 (j 13 rfl)]) (play_in (b := lg) (d := d) W ⟨_, _, _, _, _, _, _, _, _, rfl, q182', q185', q188'⟩ ⟨_, _, _, _, _, _, _, _, _, rfl, q197', q200', q203'⟩ hcklg hckd (by omega) (by omega) (by omega) (by omega) (by omega) (by omega) hM) ((fun e W' h => by obtain ⟨x, e1, h1, h2⟩ := h; exact ⟨_, e1, h2, _, rfl, h1⟩)),
  fun f s W g j l m n a => opv (v := (f 14)) rfl rfl (by simp [go_sem, (a.at' 90 rfl : n.tmps[90]?.getD undef = f 14)] <;> rfl) (j 14 rfl),
  fun f s W g j l m n a => by obtain ⟨x15_0, d15, p15_0⟩ := (j 15 rfl); exact opv (v := x15_0) rfl rfl (by simp [go_sem, a.e 75 d15]) p15_0,
  fun f s W g j l m n a => by obtain ⟨x15_0, d15, p15_0⟩ := (j 15 rfl); exact opv rfl rfl (by simp [go_sem, a.e 75 d15]) rfl,
  fun f s W g j l m n a => opv (v := (f 16)) rfl rfl (by simp [go_sem, (a.at' 91 rfl : n.tmps[91]?.getD undef = f 16)] <;> rfl) (j 16 rfl),
  fun f s W g j l m n a => opv rfl rfl (by simp [go_sem, a.e 92 (j 17 rfl)]) rfl, trivial⟩ ?_
 intro f31 s31 W31 hB31 g31 hg31
 have fB31 := hB31.f fB_
 have z31 := hB31.below.size
 have fA31 := hB31.f fA30
 obtain ⟨a209', c210', r31_18, q211'⟩ := hB31.is 18
 have lim212' := Pp.lim q211'
 refine hK27 _ _ ?_
 have k31_5 := kt hg31 5 k_5
 have k31_6 := kt hg31 6 k_6
 have k31_7 := kt hg31 7 k_7
 have k31_8 := kt hg31 8 k_8
 have k31_9 := kt hg31 9 k_9
 have k31_10 := kt hg31 10 k_10
 have k31_11 := kt hg31 11 k_11
 have k31_12 := kt hg31 12 k_12
 have k31_13 := kt hg31 13 k_13
 have k31_14 := kt hg31 14 k_14
 have k31_17 := kt hg31 17 r31_18
 have k31_18 := kt hg31 18 (hB31.is 19)
 refine wp_seq_k fun K28 hK28 => ?_
 as_aux_lemma =>
 refine region_dk 20 [(94, 0), (95, 1), (96, 2), (97, 3), (98, 4), (99, 5), (100, 6), (101, 7), (102, 8), (103, 9), (104, 10), (105, 11), (106, 12), (107, 13), (108, 14), (93, 15), (109, 16), (110, 17), (19, 18), (20, 19)] [[], [0], [], [0, 1, 2], [], [], [5], [], [5, 6, 7], [], [9], [], [9, 10, 11], [0, 1, 2, 3, 5, 6, 7, 8, 9, 10, 11, 12], [0, 1, 2, 3, 4, 5, 6, 7, 8, 9, 10, 11, 12, 13], [0, 1, 2, 3, 4, 5, 6, 7, 8, 9, 10, 11, 12, 13, 14], [0, 1, 2, 3, 4, 5, 6, 7, 8, 9, 10, 11, 12, 13, 14, 15], [0, 1, 2, 3, 4, 5, 6, 7, 8, 9, 10, 11, 12, 13, 14, 15], [0, 1, 2, 3, 4, 5, 6, 7, 8, 9, 10, 11, 12, 13, 14, 15, 16], [0, 1, 2, 3, 4, 5, 6, 7, 8, 9, 10, 11, 12, 13, 14, 15, 16, 17, 18]] (rel [is (.agg #[.int .i64 b.tab, .slice (some ⟨g1', 0, none⟩) (b.panels.length) (c4'), .int .i64 b.height, .slice (some ⟨g2', 0, none⟩) (b.top.length) (c5'), .slice (some ⟨g3', 0, none⟩) (b.bottom.length) (c6'), .int .i64 b.slot, .bool b.isOpen]),
   fun v s W => NwBlk (s 1) (b) v W,
   is (.agg #[.int .i64 d.tab, .slice (some ⟨g10', 0, none⟩) (d.panels.length) (c13'), .int .i64 d.height, .slice (some ⟨g11', 0, none⟩) (d.top.length) (c14'), .slice (some ⟨g12', 0, none⟩) (d.bottom.length) (c15'), .int .i64 d.slot, .bool d.isOpen]),
   fun v s W => NwBlk (s 3) (d) v W,
   is (.agg #[.int .i64 alo, .int .i64 ahi]),
   is (.pointer (some ⟨bk4, 0, none⟩)),
   is (.int .i64 clo),
   is (.int .i64 le),
   is (.int .i64 (clo - le)),
   is (.pointer (some ⟨bk4, 1, none⟩)),
   is (.int .i64 chi),
   is (.int .i64 le),
   is (.int .i64 (chi - le)),
   is (.agg #[.int .i64 (clo - le), .int .i64 (chi - le)]),
   ab fun v W => ∃ x0, v = .tuple #[x0, .int .i64 0] ∧ IsPp N x0 W,
   ab fun v W => ∃ x0, v = .tuple #[x0, .int .i64 0] ∧ IsPp N x0 W,
   ab fun v W => IsPp N v W,
   is (.int .i64 0),
   ab fun v W => IsPp N v W,
   is (.int .i64 0)])
  ⟨is_k, ⟨fun v k W W' hb h => h.below hb, fun v s s' W e h => by have h' : NwBlk (s 1) (b) v W := h; show NwBlk (s' 1) (b) v W; rw [← e 1 (by simp)]; exact h'⟩, is_k, ⟨fun v k W W' hb h => h.below hb, fun v s s' W e h => by have h' : NwBlk (s 3) (d) v W := h; show NwBlk (s' 3) (d) v W; rw [← e 3 (by simp)]; exact h'⟩, is_k, is_k, is_k, is_k, is_k, is_k, is_k, is_k, is_k, is_k, ab_k fun v W W' hb ⟨x0, e, h0⟩ => ⟨x0, e, h0.below hb⟩, ab_k fun v W W' hb ⟨x0, e, h0⟩ => ⟨x0, e, h0.below hb⟩, ab_k fun v W W' hb h => h.below hb, is_k, ab_k fun v W W' hb h => h.below hb, is_k, trivial⟩
  ⟨fun f s W g j l m n a => by have aW := below_trans fA31 g; exact opl rfl rfl rfl (a.v 7 k31_7) (blk_below bl_3 aW) Try.underlying24 rfl (by kernel_rfl) rfl,
  fun f s W g j l m n a => by have aW := below_trans fA31 g; exact opDo_call (args := #[.agg #[.int .i64 b.tab, .slice (some ⟨g1', 0, none⟩) (b.panels.length) (c4'), .int .i64 b.height, .slice (some ⟨g2', 0, none⟩) (b.top.length) (c5'), .slice (some ⟨g3', 0, none⟩) (b.bottom.length) (c6'), .int .i64 b.slot, .bool b.isOpen]]) rfl rfl (by simp [go_sem, a.e 94 (j 0 rfl)]) (own_any _ _ _ _ _ _ b W ((ft_0.below aW)).ii ((ft_1.below aW)).ii ((ft_2.below aW)).ii n1b n2b n3b) (fun e W' h => by obtain ⟨v, e1, h1, h2⟩ := h; exact ⟨v, e1, h2, (show NwBlk (upd s 1 W.heap.size 1) (b) v W' from by rw [upd_at]; exact h1)⟩),
  fun f s W g j l m n a => by have aW := below_trans fA31 g; exact opl rfl rfl rfl (a.v 8 k31_8) (blk_below bl_4 aW) Try.underlying24 rfl (by kernel_rfl) rfl,
  fun f s W g j l m n a => by have aW := below_trans fA31 g; exact opDo_call (args := #[.agg #[.int .i64 d.tab, .slice (some ⟨g10', 0, none⟩) (d.panels.length) (c13'), .int .i64 d.height, .slice (some ⟨g11', 0, none⟩) (d.top.length) (c14'), .slice (some ⟨g12', 0, none⟩) (d.bottom.length) (c15'), .int .i64 d.slot, .bool d.isOpen]]) rfl rfl (by simp [go_sem, a.e 96 (j 2 rfl)]) (own_any _ _ _ _ _ _ d W ((ft_3.below aW)).ii ((ft_4.below aW)).ii ((ft_5.below aW)).ii n1d n2d n3d) (fun e W' h => by obtain ⟨v, e1, h1, h2⟩ := h; exact ⟨v, e1, h2, (show NwBlk (upd s 3 W.heap.size 3) (d) v W' from by rw [upd_at]; exact h1)⟩),
  fun f s W g j l m n a => by have aW := below_trans fA31 g; exact opv rfl rfl (by simp [go_sem, a.e 9 k31_9, cb bl_5 aW 0, cb bl_5 aW 1]) rfl,
  fun f s W g j l m n a => opv rfl rfl (by simp [go_sem, a.e 10 k31_10]) rfl,
  fun f s W g j l m n a => by have aW := below_trans fA31 g; exact opv rfl rfl (by simp [go_sem, a.e 99 (j 5 rfl), cb bl_6 aW 0]) rfl,
  fun f s W g j l m n a => opv rfl rfl (by simp [go_sem, a.e 13 k31_13]) rfl,
  fun f s W g j l m n a => opv rfl rfl (by simp [go_sem, a.e 100 (j 6 rfl), a.e 101 (j 7 rfl), IntWalk.i64_in (clo - le) (by omega)]) rfl,
  fun f s W g j l m n a => opv rfl rfl (by simp [go_sem, a.e 10 k31_10]) rfl,
  fun f s W g j l m n a => by have aW := below_trans fA31 g; exact opv rfl rfl (by simp [go_sem, a.e 103 (j 9 rfl), cb bl_6 aW 1]) rfl,
  fun f s W g j l m n a => opv rfl rfl (by simp [go_sem, a.e 13 k31_13]) rfl,
  fun f s W g j l m n a => opv rfl rfl (by simp [go_sem, a.e 104 (j 10 rfl), a.e 105 (j 11 rfl), IntWalk.i64_in (chi - le) (by omega)]) rfl,
  fun f s W g j l m n a => opc rfl rfl (by simp [go_sem, a.e 102 (j 8 rfl), a.e 106 (j 12 rfl)]) (span_any (clo - le) (chi - le) W),
  fun f s W g j l m n a => by obtain ⟨g213', c216', g214', c217', g215', c218', d1, ⟨q219', q221', q220'⟩, ⟨q222', q224', q223'⟩, ⟨q225', q227', q226'⟩⟩ := (j 1 rfl); obtain ⟨g228', c231', g229', c232', g230', c233', d3, ⟨q234', q236', q235'⟩, ⟨q237', q239', q238'⟩, ⟨q240', q242', q241'⟩⟩ := (j 3 rfl); exact opDo_call (args := #[.agg #[.int .i64 b.tab, .slice (some ⟨g213', 0, none⟩) (b.panels.length) (c216'), .int .i64 b.height, .slice (some ⟨g214', 0, none⟩) (b.top.length) (c217'), .slice (some ⟨g215', 0, none⟩) (b.bottom.length) (c218'), .int .i64 b.slot, .bool b.isOpen], .agg #[.int .i64 d.tab, .slice (some ⟨g228', 0, none⟩) (d.panels.length) (c231'), .int .i64 d.height, .slice (some ⟨g229', 0, none⟩) (d.top.length) (c232'), .slice (some ⟨g230', 0, none⟩) (d.bottom.length) (c233'), .int .i64 d.slot, .bool d.isOpen], .agg #[.int .i64 alo, .int .i64 ahi], .agg #[.int .i64 (clo - le), .int .i64 (chi - le)]]) rfl rfl (by simp [go_sem, a.e 95 d1, a.e 97 d3, a.e 98 (j 4 rfl), a.e 107 (j 13 rfl)]) (play_in (b := b) (d := d) W ⟨_, _, _, _, _, _, _, _, _, rfl, q219', q222', q225'⟩ ⟨_, _, _, _, _, _, _, _, _, rfl, q234', q237', q240'⟩ hckb hckd (by omega) (by omega) (by omega) (by omega) (by omega) (by omega) hN) ((fun e W' h => by obtain ⟨x, e1, h1, h2⟩ := h; exact ⟨_, e1, h2, _, rfl, h1⟩)),
  fun f s W g j l m n a => opv (v := (f 14)) rfl rfl (by simp [go_sem, (a.at' 108 rfl : n.tmps[108]?.getD undef = f 14)] <;> rfl) (j 14 rfl),
  fun f s W g j l m n a => by obtain ⟨x15_0, d15, p15_0⟩ := (j 15 rfl); exact opv (v := x15_0) rfl rfl (by simp [go_sem, a.e 93 d15]) p15_0,
  fun f s W g j l m n a => by obtain ⟨x15_0, d15, p15_0⟩ := (j 15 rfl); exact opv rfl rfl (by simp [go_sem, a.e 93 d15]) rfl,
  fun f s W g j l m n a => opv (v := (f 16)) rfl rfl (by simp [go_sem, (a.at' 109 rfl : n.tmps[109]?.getD undef = f 16)] <;> rfl) (j 16 rfl),
  fun f s W g j l m n a => opv rfl rfl (by simp [go_sem, a.e 110 (j 17 rfl)]) rfl, trivial⟩ ?_
 intro f32 s32 W32 hB32 g32 hg32
 have fB32 := hB32.f fB31
 have z32 := hB32.below.size
 have fA32 := hB32.f fA31
 have q246' := (q211'.bw hB32)
 obtain ⟨a247', c248', r32_18, q249'⟩ := hB32.is 18
 have lim250' := Pp.lim q249'
 refine hK28 _ _ ?_
 have k32_5 := kt hg32 5 k31_5
 have k32_6 := kt hg32 6 k31_6
 have k32_7 := kt hg32 7 k31_7
 have k32_9 := kt hg32 9 k31_9
 have k32_11 := kt hg32 11 k31_11
 have k32_12 := kt hg32 12 k31_12
 have k32_13 := kt hg32 13 k31_13
 have k32_14 := kt hg32 14 k31_14
 have k32_17 := kt hg32 17 k31_17
 have k32_18 := kt hg32 18 k31_18
 have k32_19 := kt hg32 19 r32_18
 have k32_20 := kt hg32 20 (hB32.is 19)
 refine wp_seq_k fun K29 hK29 => ?_
 refine wp_seq_k fun K30 hK30 => ?_
 as_aux_lemma =>
 refine region_dk 25 [(111, 0), (112, 1), (113, 2), (114, 3), (115, 4), (116, 5), (117, 6), (118, 7), (119, 8), (120, 9), (121, 10), (122, 11), (123, 12), (124, 13), (125, 14), (126, 15), (127, 16), (128, 17), (129, 18), (130, 19), (131, 20), (132, 21), (133, 22), (134, 23), (135, 24)] [[], [0], [0, 1], [0, 1, 2], [0, 1, 2, 3], [0, 1, 2, 3, 4], [0, 1, 2, 3, 4, 5], [0, 1, 2, 3, 4, 5, 6], [0, 1, 2, 3, 4, 5, 6, 7], [0, 1, 2, 3, 4, 5, 6, 7, 8], [0, 1, 2, 3, 4, 5, 6, 7, 8, 9], [0, 1, 2, 3, 4, 5, 6, 7, 8, 9, 10], [0, 1, 2, 3, 4, 5, 6, 7, 8, 9, 10, 11], [0, 1, 2, 3, 4, 5, 6, 7, 8, 9, 10, 11, 12], [0, 1, 2, 3, 4, 5, 6, 7, 8, 9, 10, 11, 12, 13], [0, 1, 2, 3, 4, 5, 6, 7, 8, 9, 10, 11, 12, 13, 14], [0, 1, 2, 3, 4, 5, 6, 7, 8, 9, 10, 11, 12, 13, 14, 15], [0, 1, 2, 3, 4, 5, 6, 7, 8, 9, 10, 11, 12, 13, 14, 15, 16], [0, 1, 2, 3, 4, 5, 6, 7, 8, 9, 10, 11, 12, 13, 14, 15, 16, 17], [0, 1, 2, 3, 4, 5, 6, 7, 8, 9, 10, 11, 12, 13, 14, 15, 16, 17, 18], [0, 1, 2, 3, 4, 5, 6, 7, 8, 9, 10, 11, 12, 13, 14, 15, 16, 17, 18, 19], [0, 1, 2, 3, 4, 5, 6, 7, 8, 9, 10, 11, 12, 13, 14, 15, 16, 17, 18, 19, 20], [0, 1, 2, 3, 4, 5, 6, 7, 8, 9, 10, 11, 12, 13, 14, 15, 16, 17, 18, 19, 20, 21], [0, 1, 2, 3, 4, 5, 6, 7, 8, 9, 10, 11, 12, 13, 14, 15, 16, 17, 18, 19, 20, 21, 22], [0, 1, 2, 3, 4, 5, 6, 7, 8, 9, 10, 11, 12, 13, 14, 15, 16, 17, 18, 19, 20, 21, 22, 23]] (rel [is (.int .i64 0),
   is (.bool false),
   is (.bool false),
   is (.int .i64 0),
   is (.bool false),
   is (.bool false),
   is (.bool false),
   is (.int .i64 0),
   is (.bool false),
   is (.bool false),
   is (.bool false),
   is (.slice (a82') (L.length) (c83')),
   is (.int .i64 ((L.length : Int))),
   is (.bool false),
   is (.bool false),
   is (.bool false),
   is (.slice (a209') (M.length) (c210')),
   is (.int .i64 ((M.length : Int))),
   is (.bool false),
   is (.bool false),
   is (.bool false),
   is (.slice (a247') (N.length) (c248')),
   is (.int .i64 ((N.length : Int))),
   is (.bool false),
   is (.bool false)])
  ⟨is_k, is_k, is_k, is_k, is_k, is_k, is_k, is_k, is_k, is_k, is_k, is_k, is_k, is_k, is_k, is_k, is_k, is_k, is_k, is_k, is_k, is_k, is_k, is_k, is_k, trivial⟩
  ⟨fun f s W g j l m n a => opv rfl rfl (by simp [go_sem, a.e 12 k32_12]) rfl,
  fun f s W g j l m n a => opv rfl rfl (by simp [go_sem, a.e 111 (j 0 rfl)]) rfl,
  fun f s W g j l m n a => opv rfl rfl (by simp [go_sem, a.e 112 (j 1 rfl)]) rfl,
  fun f s W g j l m n a => osure rfl rfl (a.says (d := 113) rfl rfl (j 2 rfl)) (gv (by simp [go_sem, a.e 18 k32_18]) rfl),
  fun f s W g j l m n a => osure rfl rfl (a.says (d := 113) rfl rfl (j 2 rfl)) (gv (by simp [go_sem, a.e 114 (j 3 rfl)]) rfl),
  fun f s W g j l m n a => opk (c := false) rfl rfl (fun _ => by simp [go_sem, a.e 113 (j 2 rfl), a.e 115 (j 4 rfl)]) (fun h => absurd h (by decide)),
  fun f s W g j l m n a => opv rfl rfl (by simp [go_sem, a.e 116 (j 5 rfl)]) rfl,
  fun f s W g j l m n a => osure rfl rfl (a.says (d := 117) rfl rfl (j 6 rfl)) (gv (by simp [go_sem, a.e 20 k32_20]) rfl),
  fun f s W g j l m n a => osure rfl rfl (a.says (d := 117) rfl rfl (j 6 rfl)) (gv (by simp [go_sem, a.e 118 (j 7 rfl)]) rfl),
  fun f s W g j l m n a => opk (c := false) rfl rfl (fun _ => by simp [go_sem, a.e 117 (j 6 rfl), a.e 119 (j 8 rfl)]) (fun h => absurd h (by decide)),
  fun f s W g j l m n a => opv rfl rfl (by simp [go_sem, a.e 120 (j 9 rfl)]) rfl,
  fun f s W g j l m n a => osure rfl rfl (a.says (d := 121) rfl rfl (j 10 rfl)) (gv (by simp [go_sem, a.e 11 k32_11]) rfl),
  fun f s W g j l m n a => osure rfl rfl (a.says (d := 121) rfl rfl (j 10 rfl)) (gv (by simp [go_sem, a.e 122 (j 11 rfl)]) rfl),
  fun f s W g j l m n a => osure rfl rfl (a.says (d := 121) rfl rfl (j 10 rfl)) (gv (by simp [go_sem, a.e 123 (j 12 rfl), hL4z]) rfl),
  fun f s W g j l m n a => opk (c := false) rfl rfl (fun _ => by simp [go_sem, a.e 121 (j 10 rfl), a.e 124 (j 13 rfl)]) (fun h => absurd h (by decide)),
  fun f s W g j l m n a => opv rfl rfl (by simp [go_sem, a.e 125 (j 14 rfl)]) rfl,
  fun f s W g j l m n a => osure rfl rfl (a.says (d := 126) rfl rfl (j 15 rfl)) (gv (by simp [go_sem, a.e 17 k32_17]) rfl),
  fun f s W g j l m n a => osure rfl rfl (a.says (d := 126) rfl rfl (j 15 rfl)) (gv (by simp [go_sem, a.e 127 (j 16 rfl)]) rfl),
  fun f s W g j l m n a => osure rfl rfl (a.says (d := 126) rfl rfl (j 15 rfl)) (gv (by simp [go_sem, a.e 128 (j 17 rfl), hM4z]) rfl),
  fun f s W g j l m n a => opk (c := false) rfl rfl (fun _ => by simp [go_sem, a.e 126 (j 15 rfl), a.e 129 (j 18 rfl)]) (fun h => absurd h (by decide)),
  fun f s W g j l m n a => opv rfl rfl (by simp [go_sem, a.e 130 (j 19 rfl)]) rfl,
  fun f s W g j l m n a => osure rfl rfl (a.says (d := 131) rfl rfl (j 20 rfl)) (gv (by simp [go_sem, a.e 19 k32_19]) rfl),
  fun f s W g j l m n a => osure rfl rfl (a.says (d := 131) rfl rfl (j 20 rfl)) (gv (by simp [go_sem, a.e 132 (j 21 rfl)]) rfl),
  fun f s W g j l m n a => osure rfl rfl (a.says (d := 131) rfl rfl (j 20 rfl)) (gv (by simp [go_sem, a.e 133 (j 22 rfl), hN4z]) rfl),
  fun f s W g j l m n a => opk (c := false) rfl rfl (fun _ => by simp [go_sem, a.e 131 (j 20 rfl), a.e 134 (j 23 rfl)]) (fun h => absurd h (by decide)), trivial⟩ ?_
 intro f33 s33 W33 hB33 g33 hg33
 have fB33 := hB33.f fB32
 have z33 := hB33.below.size
 have fA33 := hB33.f fA32
 have q251' := (q246'.bw hB33)
 have q252' := (q249'.bw hB33)
 refine hK30 _ _ ?_
 have k33_5 := kt hg33 5 k32_5
 have k33_6 := kt hg33 6 k32_6
 have k33_7 := kt hg33 7 k32_7
 have k33_9 := kt hg33 9 k32_9
 have k33_11 := kt hg33 11 k32_11
 have k33_13 := kt hg33 13 k32_13
 have k33_14 := kt hg33 14 k32_14
 have k33_17 := kt hg33 17 k32_17
 have k33_19 := kt hg33 19 k32_19
 have k33_135 := kt hg33 135 (hB33.is 24)
 refine wp_cond_false ((fr_eval rfl).trans k33_135) ?_
 refine wp_skip ?_
 refine hK29 _ _ ?_
 refine wp_seq_k fun K32 hK32 => ?_
 refine wp_seq_k fun K33 hK33 => ?_
 as_aux_lemma =>
 refine region_dk 1 [(21, 0)] [[]] (rel [is (.int .i64 0)])
  ⟨is_k, trivial⟩
  ⟨fun f s W g j l m n a => opv rfl rfl (by simp [go_sem]) rfl, trivial⟩ ?_
 intro f34 s34 W34 hB34 g34 hg34
 have fB34 := hB34.f fB33
 have z34 := hB34.below.size
 have fA34 := hB34.f fA33
 have q253' := (q251'.bw hB34)
 have q254' := (q252'.bw hB34)
 refine hK33 _ _ ?_
 have k34_5 := kt hg34 5 k33_5
 have k34_6 := kt hg34 6 k33_6
 have k34_7 := kt hg34 7 k33_7
 have k34_9 := kt hg34 9 k33_9
 have k34_11 := kt hg34 11 k33_11
 have k34_13 := kt hg34 13 k33_13
 have k34_14 := kt hg34 14 k33_14
 have k34_17 := kt hg34 17 k33_17
 have k34_19 := kt hg34 19 k33_19
 have k34_21 := kt hg34 21 (hB34.is 0)
 refine wp_block ?_
 refine wp_loop_n (fun m_ a_ W_ => ∃ g_ : Nat → Value, a_ = fr 334 g_ ∧ (∃ i : Nat, m_ = 4 - i ∧ g_ 5 = .pointer (some ⟨bk0, 0, none⟩) ∧ g_ 6 = .bool false ∧ g_ 7 = .pointer (some ⟨bk1, 0, none⟩) ∧ g_ 9 = .pointer (some ⟨bk3, 0, none⟩) ∧ g_ 11 = .slice (a82') (L.length) (c83') ∧ g_ 13 = .int .i64 le ∧ g_ 14 = .int .i64 mo ∧ g_ 17 = .slice (a209') (M.length) (c210') ∧ g_ 19 = .slice (a247') (N.length) (c248') ∧ g_ 21 = .int .i64 ((i : Int)) ∧ Below w.heap.size w W_ ∧ W34.heap.size ≤ W_.heap.size ∧ Below Wz_.heap.size Wz_ W_ ∧ Pp W_ a209' M.length c210' M ∧ Pp W_ a247' N.length c248' N ∧ (i ≤ 4))) ⟨_, g34, rfl, 0, rfl, k34_5, k34_6, k34_7, k34_9, k34_11, k34_13, k34_14, k34_17, k34_19, k34_21.trans (by rfl), fB34, Nat.le_refl _, fA34, q253', q254', (by omega)⟩ ?_
 rintro _ _ W_255 ⟨g_255, rfl, i, rfl, k_255_5, k_255_6, k_255_7, k_255_9, k_255_11, k_255_13, k_255_14, k_255_17, k_255_19, k_255_21, fB_255, z_255, fA_255, q256', q257', lp0⟩
 refine wp_seq_k fun K34 hK34 => ?_
 refine wp_seq_k fun K35 hK35 => ?_
 as_aux_lemma =>
 refine region_dk 2 [(136, 0), (137, 1)] [[], [0]] (rel [is (.int .i64 ((i : Int))),
   is (.bool (decide ((i : Int) < 4)))])
  ⟨is_k, is_k, trivial⟩
  ⟨fun f s W g j l m n a => opv rfl rfl (by simp [go_sem, a.e 21 k_255_21]) rfl,
  fun f s W g j l m n a => opv rfl rfl (by simp [go_sem, a.e 136 (j 0 rfl)]) rfl, trivial⟩ ?_
 intro f35 s35 W35 hB35 g35 hg35
 have fB35 := hB35.f fB_255
 have z35 := hB35.below.size
 have fA35 := hB35.f fA_255
 have q258' := (q256'.bw hB35)
 have q259' := (q257'.bw hB35)
 refine hK35 _ _ ?_
 have k35_5 := kt hg35 5 k_255_5
 have k35_6 := kt hg35 6 k_255_6
 have k35_7 := kt hg35 7 k_255_7
 have k35_9 := kt hg35 9 k_255_9
 have k35_11 := kt hg35 11 k_255_11
 have k35_13 := kt hg35 13 k_255_13
 have k35_14 := kt hg35 14 k_255_14
 have k35_17 := kt hg35 17 k_255_17
 have k35_19 := kt hg35 19 k_255_19
 have k35_21 := kt hg35 21 k_255_21
 have k35_137 := kt hg35 137 (hB35.is 1)
 refine wp_cond_split (t := decide ((i : Int) < 4)) ((fr_eval rfl).trans k35_137) (fun hc36 => ?_) (fun hc36 => ?_)
 ·
  have hc36' := hc36; try simp only [ba] at hc36'
  have hi4 : i < 4 := by omega
  have hle_ := hLle i hi4
  have hlb_ := hLb i hi4
  obtain ⟨bqL, oqL, habL⟩ := ft_6.at' (by rw [hL4]; omega)
  have liL := Nat.not_le.2 (show i < L.length by rw [hL4]; exact hi4)
  obtain ⟨bqM, oqM, habM⟩ := q258'.at' (by rw [hM4]; omega)
  have liM := Nat.not_le.2 (show i < M.length by rw [hM4]; exact hi4)
  obtain ⟨bqN, oqN, habN⟩ := q259'.at' (by rw [hN4]; omega)
  have liN := Nat.not_le.2 (show i < N.length by rw [hN4]; exact hi4)
  refine wp_skip ?_
  refine hK34 _ _ ?_
  refine wp_seq_k fun K37 hK37 => ?_
  refine wp_block ?_
  refine wp_seq_k fun K38 hK38 => ?_
  as_aux_lemma =>
  refine region_dk 61 [(140, 0), (141, 1), (142, 2), (143, 3), (144, 4), (145, 5), (146, 6), (147, 7), (148, 8), (149, 9), (150, 10), (151, 11), (152, 12), (153, 13), (154, 14), (155, 15), (156, 16), (157, 17), (158, 18), (159, 19), (160, 20), (161, 21), (162, 22), (163, 23), (164, 24), (165, 25), (166, 26), (167, 27), (168, 28), (169, 29), (170, 30), (171, 31), (172, 32), (173, 33), (174, 34), (175, 35), (176, 36), (177, 37), (178, 38), (179, 39), (180, 40), (181, 41), (182, 42), (183, 43), (184, 44), (185, 45), (186, 46), (187, 47), (188, 48), (189, 49), (190, 50), (191, 51), (192, 52), (193, 53), (194, 54), (195, 55), (196, 56), (197, 57), (198, 58), (199, 59), (200, 60)] [[], [], [0, 1], [0, 1, 2], [0, 1, 2, 3], [], [], [5, 6], [5, 6, 7], [5, 6, 7, 8], [0, 1, 2, 3, 4, 5, 6, 7, 8, 9], [0, 1, 2, 3, 4, 5, 6, 7, 8, 9, 10], [0, 1, 2, 3, 4, 5, 6, 7, 8, 9, 10, 11], [0, 1, 2, 3, 4, 5, 6, 7, 8, 9, 10, 11], [0, 1, 2, 3, 4, 5, 6, 7, 8, 9, 10, 11, 12, 13], [0, 1, 2, 3, 4, 5, 6, 7, 8, 9, 10, 11, 12, 13, 14], [0, 1, 2, 3, 4, 5, 6, 7, 8, 9, 10, 11], [0, 1, 2, 3, 4, 5, 6, 7, 8, 9, 10, 11], [0, 1, 2, 3, 4, 5, 6, 7, 8, 9, 10, 11, 16, 17], [0, 1, 2, 3, 4, 5, 6, 7, 8, 9, 10, 11, 16, 17, 18], [0, 1, 2, 3, 4, 5, 6, 7, 8, 9, 10, 11, 16, 17, 18, 19], [0, 1, 2, 3, 4, 5, 6, 7, 8, 9, 10, 11], [0, 1, 2, 3, 4, 5, 6, 7, 8, 9, 10, 11, 16, 17, 18, 19, 20, 21], [0, 1, 2, 3, 4, 5, 6, 7, 8, 9, 10, 11], [0, 1, 2, 3, 4, 5, 6, 7, 8, 9, 10, 11, 23], [0, 1, 2, 3, 4, 5, 6, 7, 8, 9, 10, 11, 16, 17, 18, 19, 20, 21, 22, 23, 24], [0, 1, 2, 3, 4, 5, 6, 7, 8, 9, 10, 11], [0, 1, 2, 3, 4, 5, 6, 7, 8, 9, 10, 11], [0, 1, 2, 3, 4, 5, 6, 7, 8, 9, 10, 11, 26, 27], [0, 1, 2, 3, 4, 5, 6, 7, 8, 9, 10, 11, 26, 27, 28], [0, 1, 2, 3, 4, 5, 6, 7, 8, 9, 10, 11, 26, 27, 28, 29], [0, 1, 2, 3, 4, 5, 6, 7, 8, 9, 10, 11], [0, 1, 2, 3, 4, 5, 6, 7, 8, 9, 10, 11, 26, 27, 28, 29, 30, 31], [0, 1, 2, 3, 4, 5, 6, 7, 8, 9, 10, 11], [0, 1, 2, 3, 4, 5, 6, 7, 8, 9, 10, 11, 33], [0, 1, 2, 3, 4, 5, 6, 7, 8, 9, 10, 11, 26, 27, 28, 29, 30, 31, 32, 33, 34], [0, 1, 2, 3, 4, 5, 6, 7, 8, 9, 10, 11, 16, 17, 18, 19, 20, 21, 22, 23, 24, 25, 26, 27, 28, 29, 30, 31, 32, 33, 34, 35], [0, 1, 2, 3, 4, 5, 6, 7, 8, 9, 10, 11, 12, 13, 14, 15, 16, 17, 18, 19, 20, 21, 22, 23, 24, 25, 26, 27, 28, 29, 30, 31, 32, 33, 34, 35, 36], [0, 1, 2, 3, 4, 5, 6, 7, 8, 9, 10, 11, 12, 13, 14, 15, 16, 17, 18, 19, 20, 21, 22, 23, 24, 25, 26, 27, 28, 29, 30, 31, 32, 33, 34, 35, 36, 37], [0, 1, 2, 3, 4, 5, 6, 7, 8, 9, 10, 11, 12, 13, 14, 15, 16, 17, 18, 19, 20, 21, 22, 23, 24, 25, 26, 27, 28, 29, 30, 31, 32, 33, 34, 35, 36, 37, 38], [0, 1, 2, 3, 4, 5, 6, 7, 8, 9, 10, 11, 12, 13, 14, 15, 16, 17, 18, 19, 20, 21, 22, 23, 24, 25, 26, 27, 28, 29, 30, 31, 32, 33, 34, 35, 36, 37, 38, 39], [0, 1, 2, 3, 4, 5, 6, 7, 8, 9, 10, 11, 12, 13, 14, 15, 16, 17, 18, 19, 20, 21, 22, 23, 24, 25, 26, 27, 28, 29, 30, 31, 32, 33, 34, 35, 36, 37, 38, 39], [0, 1, 2, 3, 4, 5, 6, 7, 8, 9, 10, 11, 12, 13, 14, 15, 16, 17, 18, 19, 20, 21, 22, 23, 24, 25, 26, 27, 28, 29, 30, 31, 32, 33, 34, 35, 36, 37, 38, 39, 40, 41], [0, 1, 2, 3, 4, 5, 6, 7, 8, 9, 10, 11, 12, 13, 14, 15, 16, 17, 18, 19, 20, 21, 22, 23, 24, 25, 26, 27, 28, 29, 30, 31, 32, 33, 34, 35, 36, 37, 38, 39, 40, 41, 42], [0, 1, 2, 3, 4, 5, 6, 7, 8, 9, 10, 11, 12, 13, 14, 15, 16, 17, 18, 19, 20, 21, 22, 23, 24, 25, 26, 27, 28, 29, 30, 31, 32, 33, 34, 35, 36, 37, 38, 39], [0, 1, 2, 3, 4, 5, 6, 7, 8, 9, 10, 11, 12, 13, 14, 15, 16, 17, 18, 19, 20, 21, 22, 23, 24, 25, 26, 27, 28, 29, 30, 31, 32, 33, 34, 35, 36, 37, 38, 39], [0, 1, 2, 3, 4, 5, 6, 7, 8, 9, 10, 11, 12, 13, 14, 15, 16, 17, 18, 19, 20, 21, 22, 23, 24, 25, 26, 27, 28, 29, 30, 31, 32, 33, 34, 35, 36, 37, 38, 39, 44, 45], [0, 1, 2, 3, 4, 5, 6, 7, 8, 9, 10, 11, 12, 13, 14, 15, 16, 17, 18, 19, 20, 21, 22, 23, 24, 25, 26, 27, 28, 29, 30, 31, 32, 33, 34, 35, 36, 37, 38, 39, 44, 45, 46], [0, 1, 2, 3, 4, 5, 6, 7, 8, 9, 10, 11, 12, 13, 14, 15, 16, 17, 18, 19, 20, 21, 22, 23, 24, 25, 26, 27, 28, 29, 30, 31, 32, 33, 34, 35, 36, 37, 38, 39, 44, 45, 46, 47], [0, 1, 2, 3, 4, 5, 6, 7, 8, 9, 10, 11, 12, 13, 14, 15, 16, 17, 18, 19, 20, 21, 22, 23, 24, 25, 26, 27, 28, 29, 30, 31, 32, 33, 34, 35, 36, 37, 38, 39], [0, 1, 2, 3, 4, 5, 6, 7, 8, 9, 10, 11, 12, 13, 14, 15, 16, 17, 18, 19, 20, 21, 22, 23, 24, 25, 26, 27, 28, 29, 30, 31, 32, 33, 34, 35, 36, 37, 38, 39, 44, 45, 46, 47, 48, 49], [0, 1, 2, 3, 4, 5, 6, 7, 8, 9, 10, 11, 12, 13, 14, 15, 16, 17, 18, 19, 20, 21, 22, 23, 24, 25, 26, 27, 28, 29, 30, 31, 32, 33, 34, 35, 36, 37, 38, 39], [0, 1, 2, 3, 4, 5, 6, 7, 8, 9, 10, 11, 12, 13, 14, 15, 16, 17, 18, 19, 20, 21, 22, 23, 24, 25, 26, 27, 28, 29, 30, 31, 32, 33, 34, 35, 36, 37, 38, 39], [0, 1, 2, 3, 4, 5, 6, 7, 8, 9, 10, 11, 12, 13, 14, 15, 16, 17, 18, 19, 20, 21, 22, 23, 24, 25, 26, 27, 28, 29, 30, 31, 32, 33, 34, 35, 36, 37, 38, 39, 51, 52], [0, 1, 2, 3, 4, 5, 6, 7, 8, 9, 10, 11, 12, 13, 14, 15, 16, 17, 18, 19, 20, 21, 22, 23, 24, 25, 26, 27, 28, 29, 30, 31, 32, 33, 34, 35, 36, 37, 38, 39, 51, 52, 53], [0, 1, 2, 3, 4, 5, 6, 7, 8, 9, 10, 11, 12, 13, 14, 15, 16, 17, 18, 19, 20, 21, 22, 23, 24, 25, 26, 27, 28, 29, 30, 31, 32, 33, 34, 35, 36, 37, 38, 39, 51, 52, 53, 54], [0, 1, 2, 3, 4, 5, 6, 7, 8, 9, 10, 11, 12, 13, 14, 15, 16, 17, 18, 19, 20, 21, 22, 23, 24, 25, 26, 27, 28, 29, 30, 31, 32, 33, 34, 35, 36, 37, 38, 39], [0, 1, 2, 3, 4, 5, 6, 7, 8, 9, 10, 11, 12, 13, 14, 15, 16, 17, 18, 19, 20, 21, 22, 23, 24, 25, 26, 27, 28, 29, 30, 31, 32, 33, 34, 35, 36, 37, 38, 39, 51, 52, 53, 54, 55, 56], [0, 1, 2, 3, 4, 5, 6, 7, 8, 9, 10, 11, 12, 13, 14, 15, 16, 17, 18, 19, 20, 21, 22, 23, 24, 25, 26, 27, 28, 29, 30, 31, 32, 33, 34, 35, 36, 37, 38, 39, 44, 45, 46, 47, 48, 49, 50, 51, 52, 53, 54, 55, 56, 57], [0, 1, 2, 3, 4, 5, 6, 7, 8, 9, 10, 11, 12, 13, 14, 15, 16, 17, 18, 19, 20, 21, 22, 23, 24, 25, 26, 27, 28, 29, 30, 31, 32, 33, 34, 35, 36, 37, 38, 39, 40, 41, 42, 43, 44, 45, 46, 47, 48, 49, 50, 51, 52, 53, 54, 55, 56, 57, 58], [0, 1, 2, 3, 4, 5, 6, 7, 8, 9, 10, 11, 12, 13, 14, 15, 16, 17, 18, 19, 20, 21, 22, 23, 24, 25, 26, 27, 28, 29, 30, 31, 32, 33, 34, 35, 36, 37, 38, 39, 40, 41, 42, 43, 44, 45, 46, 47, 48, 49, 50, 51, 52, 53, 54, 55, 56, 57, 58, 59]] (rel [is (.slice (a82') (L.length) (c83')),
   is (.int .i64 ((i : Int))),
   is (.pointer (some ⟨bqL, oqL + i * 2, none⟩)),
   is (.pointer (some ⟨bqL, oqL + i * 2, none⟩)),
   is (.int .i64 (((nthP L i).1))),
   is (.slice (a82') (L.length) (c83')),
   is (.int .i64 ((i : Int))),
   is (.pointer (some ⟨bqL, oqL + i * 2, none⟩)),
   is (.pointer (some ⟨bqL, oqL + i * 2 + 1, none⟩)),
   is (.int .i64 (((nthP L i).2))),
   is (.bool false),
   is (.bool false),
   is (.slice (a209') (M.length) (c210')),
   is (.int .i64 ((i : Int))),
   is (.pointer (some ⟨bqM, oqM + i * 2, none⟩)),
   is (.agg #[.int .i64 ((((nthP L i).1) + le) + (1000 * mo)), .int .i64 ((((nthP L i).2) + le) + (1000 * mo))]),
   is (.slice (a82') (L.length) (c83')),
   is (.int .i64 ((i : Int))),
   is (.pointer (some ⟨bqL, oqL + i * 2, none⟩)),
   is (.pointer (some ⟨bqL, oqL + i * 2, none⟩)),
   is (.int .i64 (((nthP L i).1))),
   is (.int .i64 le),
   is (.int .i64 (((nthP L i).1) + le)),
   is (.int .i64 mo),
   is (.int .i64 (1000 * mo)),
   is (.int .i64 ((((nthP L i).1) + le) + (1000 * mo))),
   is (.slice (a82') (L.length) (c83')),
   is (.int .i64 ((i : Int))),
   is (.pointer (some ⟨bqL, oqL + i * 2, none⟩)),
   is (.pointer (some ⟨bqL, oqL + i * 2 + 1, none⟩)),
   is (.int .i64 (((nthP L i).2))),
   is (.int .i64 le),
   is (.int .i64 (((nthP L i).2) + le)),
   is (.int .i64 mo),
   is (.int .i64 (1000 * mo)),
   is (.int .i64 ((((nthP L i).2) + le) + (1000 * mo))),
   is (.agg #[.int .i64 ((((nthP L i).1) + le) + (1000 * mo)), .int .i64 ((((nthP L i).2) + le) + (1000 * mo))]),
   is (.bool false),
   is (.bool false),
   is (.bool false),
   is (.slice (a247') (N.length) (c248')),
   is (.int .i64 ((i : Int))),
   is (.pointer (some ⟨bqN, oqN + i * 2, none⟩)),
   is (.agg #[.int .i64 (((nthP L i).1) + le), .int .i64 (((nthP L i).2) + le)]),
   is (.slice (a82') (L.length) (c83')),
   is (.int .i64 ((i : Int))),
   is (.pointer (some ⟨bqL, oqL + i * 2, none⟩)),
   is (.pointer (some ⟨bqL, oqL + i * 2, none⟩)),
   is (.int .i64 (((nthP L i).1))),
   is (.int .i64 le),
   is (.int .i64 (((nthP L i).1) + le)),
   is (.slice (a82') (L.length) (c83')),
   is (.int .i64 ((i : Int))),
   is (.pointer (some ⟨bqL, oqL + i * 2, none⟩)),
   is (.pointer (some ⟨bqL, oqL + i * 2 + 1, none⟩)),
   is (.int .i64 (((nthP L i).2))),
   is (.int .i64 le),
   is (.int .i64 (((nthP L i).2) + le)),
   is (.agg #[.int .i64 (((nthP L i).1) + le), .int .i64 (((nthP L i).2) + le)]),
   is (.bool false),
   is (.bool false)])
   ⟨is_k, is_k, is_k, is_k, is_k, is_k, is_k, is_k, is_k, is_k, is_k, is_k, is_k, is_k, is_k, is_k, is_k, is_k, is_k, is_k, is_k, is_k, is_k, is_k, is_k, is_k, is_k, is_k, is_k, is_k, is_k, is_k, is_k, is_k, is_k, is_k, is_k, is_k, is_k, is_k, is_k, is_k, is_k, is_k, is_k, is_k, is_k, is_k, is_k, is_k, is_k, is_k, is_k, is_k, is_k, is_k, is_k, is_k, is_k, is_k, is_k, trivial⟩
   ⟨fun f s W g j l m n a => opv rfl rfl (by simp [go_sem, a.e 11 k35_11]) rfl,
  fun f s W g j l m n a => opv rfl rfl (by simp [go_sem, a.e 21 k35_21]) rfl,
  fun f s W g j l m n a => opv rfl rfl (by simp [go_sem, a.e 140 (j 0 rfl), a.e 141 (j 1 rfl), habL, liL]) rfl,
  fun f s W g j l m n a => opv rfl rfl (by simp [go_sem, a.e 142 (j 2 rfl)]) rfl,
  fun f s W g j l m n a => by have aW := below_trans fA35 g; have cu := pp_nth (i := i) (ft_6.below aW (Nat.le_refl _)) habL (by rw [hL4]; exact hi4); have cx_ : W.cell? ⟨bqL, oqL + i * 2, none⟩ = some (.int .i64 (((nthP L i).1))) := cu.1; exact opv rfl rfl (by simp [go_sem, a.e 143 (j 3 rfl), cx_]) rfl,
  fun f s W g j l m n a => opv rfl rfl (by simp [go_sem, a.e 11 k35_11]) rfl,
  fun f s W g j l m n a => opv rfl rfl (by simp [go_sem, a.e 21 k35_21]) rfl,
  fun f s W g j l m n a => opv rfl rfl (by simp [go_sem, a.e 145 (j 5 rfl), a.e 146 (j 6 rfl), habL, liL]) rfl,
  fun f s W g j l m n a => opv rfl rfl (by simp [go_sem, a.e 147 (j 7 rfl)]) rfl,
  fun f s W g j l m n a => by have aW := below_trans fA35 g; have cu := pp_nth (i := i) (ft_6.below aW (Nat.le_refl _)) habL (by rw [hL4]; exact hi4); have cx_ : W.cell? ⟨bqL, oqL + i * 2 + 1, none⟩ = some (.int .i64 (((nthP L i).2))) := cu.2; exact opv rfl rfl (by simp [go_sem, a.e 148 (j 8 rfl), cx_]) rfl,
  fun f s W g j l m n a => opv rfl rfl (by simp [go_sem, a.e 144 (j 4 rfl), a.e 149 (j 9 rfl), hle_]) rfl,
  fun f s W g j l m n a => opv rfl rfl (by simp [go_sem, a.e 150 (j 10 rfl)]) rfl,
  fun f s W g j l m n a => osure rfl rfl (a.says (d := 151) rfl rfl (j 11 rfl)) (gv (by simp [go_sem, a.e 17 k35_17]) rfl),
  fun f s W g j l m n a => osure rfl rfl (a.says (d := 151) rfl rfl (j 11 rfl)) (gv (by simp [go_sem, a.e 21 k35_21]) rfl),
  fun f s W g j l m n a => osure rfl rfl (a.says (d := 151) rfl rfl (j 11 rfl)) (gv (by simp [go_sem, a.e 152 (j 12 rfl), a.e 153 (j 13 rfl), habM, liM]) rfl),
  fun f s W g j l m n a => osure rfl rfl (a.says (d := 151) rfl rfl (j 11 rfl)) (by have cu := pp_nth (i := i) (q258'.below g (Nat.le_refl _)) habM (by rw [hM4]; exact hi4); rw [hMi i hi4] at cu; have cx_ : W.cell? ⟨bqM, oqM + i * 2, none⟩ = some (.int .i64 ((((nthP L i).1) + le) + (1000 * mo))) := cu.1; have cy_ : W.cell? ⟨bqM, oqM + i * 2 + 1, none⟩ = some (.int .i64 ((((nthP L i).2) + le) + (1000 * mo))) := cu.2; exact gv (by simp [go_sem, a.e 154 (j 14 rfl), cx_, cy_]) rfl),
  fun f s W g j l m n a => osure rfl rfl (a.says (d := 151) rfl rfl (j 11 rfl)) (gv (by simp [go_sem, a.e 11 k35_11]) rfl),
  fun f s W g j l m n a => osure rfl rfl (a.says (d := 151) rfl rfl (j 11 rfl)) (gv (by simp [go_sem, a.e 21 k35_21]) rfl),
  fun f s W g j l m n a => osure rfl rfl (a.says (d := 151) rfl rfl (j 11 rfl)) (gv (by simp [go_sem, a.e 156 (j 16 rfl), a.e 157 (j 17 rfl), habL, liL]) rfl),
  fun f s W g j l m n a => osure rfl rfl (a.says (d := 151) rfl rfl (j 11 rfl)) (gv (by simp [go_sem, a.e 158 (j 18 rfl)]) rfl),
  fun f s W g j l m n a => osure rfl rfl (a.says (d := 151) rfl rfl (j 11 rfl)) (by have aW := below_trans fA35 g; have cu := pp_nth (i := i) (ft_6.below aW (Nat.le_refl _)) habL (by rw [hL4]; exact hi4); have cx_ : W.cell? ⟨bqL, oqL + i * 2, none⟩ = some (.int .i64 (((nthP L i).1))) := cu.1; exact gv (by simp [go_sem, a.e 159 (j 19 rfl), cx_]) rfl),
  fun f s W g j l m n a => osure rfl rfl (a.says (d := 151) rfl rfl (j 11 rfl)) (gv (by simp [go_sem, a.e 13 k35_13]) rfl),
  fun f s W g j l m n a => osure rfl rfl (a.says (d := 151) rfl rfl (j 11 rfl)) (gv (by simp [go_sem, a.e 160 (j 20 rfl), a.e 161 (j 21 rfl), IntWalk.i64_in (((nthP L i).1) + le) (by omega)]) rfl),
  fun f s W g j l m n a => osure rfl rfl (a.says (d := 151) rfl rfl (j 11 rfl)) (gv (by simp [go_sem, a.e 14 k35_14]) rfl),
  fun f s W g j l m n a => osure rfl rfl (a.says (d := 151) rfl rfl (j 11 rfl)) (gv (by simp [go_sem, a.e 163 (j 23 rfl), IntWalk.i64_in (1000 * mo) (by omega)]) rfl),
  fun f s W g j l m n a => osure rfl rfl (a.says (d := 151) rfl rfl (j 11 rfl)) (gv (by simp [go_sem, a.e 162 (j 22 rfl), a.e 164 (j 24 rfl), IntWalk.i64_in ((((nthP L i).1) + le) + (1000 * mo)) (by omega)]) rfl),
  fun f s W g j l m n a => osure rfl rfl (a.says (d := 151) rfl rfl (j 11 rfl)) (gv (by simp [go_sem, a.e 11 k35_11]) rfl),
  fun f s W g j l m n a => osure rfl rfl (a.says (d := 151) rfl rfl (j 11 rfl)) (gv (by simp [go_sem, a.e 21 k35_21]) rfl),
  fun f s W g j l m n a => osure rfl rfl (a.says (d := 151) rfl rfl (j 11 rfl)) (gv (by simp [go_sem, a.e 166 (j 26 rfl), a.e 167 (j 27 rfl), habL, liL]) rfl),
  fun f s W g j l m n a => osure rfl rfl (a.says (d := 151) rfl rfl (j 11 rfl)) (gv (by simp [go_sem, a.e 168 (j 28 rfl)]) rfl),
  fun f s W g j l m n a => osure rfl rfl (a.says (d := 151) rfl rfl (j 11 rfl)) (by have aW := below_trans fA35 g; have cu := pp_nth (i := i) (ft_6.below aW (Nat.le_refl _)) habL (by rw [hL4]; exact hi4); have cx_ : W.cell? ⟨bqL, oqL + i * 2 + 1, none⟩ = some (.int .i64 (((nthP L i).2))) := cu.2; exact gv (by simp [go_sem, a.e 169 (j 29 rfl), cx_]) rfl),
  fun f s W g j l m n a => osure rfl rfl (a.says (d := 151) rfl rfl (j 11 rfl)) (gv (by simp [go_sem, a.e 13 k35_13]) rfl),
  fun f s W g j l m n a => osure rfl rfl (a.says (d := 151) rfl rfl (j 11 rfl)) (gv (by simp [go_sem, a.e 170 (j 30 rfl), a.e 171 (j 31 rfl), IntWalk.i64_in (((nthP L i).2) + le) (by omega)]) rfl),
  fun f s W g j l m n a => osure rfl rfl (a.says (d := 151) rfl rfl (j 11 rfl)) (gv (by simp [go_sem, a.e 14 k35_14]) rfl),
  fun f s W g j l m n a => osure rfl rfl (a.says (d := 151) rfl rfl (j 11 rfl)) (gv (by simp [go_sem, a.e 173 (j 33 rfl), IntWalk.i64_in (1000 * mo) (by omega)]) rfl),
  fun f s W g j l m n a => osure rfl rfl (a.says (d := 151) rfl rfl (j 11 rfl)) (gv (by simp [go_sem, a.e 172 (j 32 rfl), a.e 174 (j 34 rfl), IntWalk.i64_in ((((nthP L i).2) + le) + (1000 * mo)) (by omega)]) rfl),
  fun f s W g j l m n a => osure rfl rfl (a.says (d := 151) rfl rfl (j 11 rfl)) (gc (by simp [go_sem, a.e 165 (j 25 rfl), a.e 175 (j 35 rfl)]) (span_any ((((nthP L i).1) + le) + (1000 * mo)) ((((nthP L i).2) + le) + (1000 * mo)) W)),
  fun f s W g j l m n a => osure rfl rfl (a.says (d := 151) rfl rfl (j 11 rfl)) (gv (by simp [go_sem, a.e 155 (j 15 rfl), a.e 176 (j 36 rfl)]) rfl),
  fun f s W g j l m n a => opk (c := false) rfl rfl (fun _ => by simp [go_sem, a.e 151 (j 11 rfl), a.e 177 (j 37 rfl)]) (fun h => absurd h (by decide)),
  fun f s W g j l m n a => opv rfl rfl (by simp [go_sem, a.e 178 (j 38 rfl)]) rfl,
  fun f s W g j l m n a => osure rfl rfl (a.says (d := 179) rfl rfl (j 39 rfl)) (gv (by simp [go_sem, a.e 19 k35_19]) rfl),
  fun f s W g j l m n a => osure rfl rfl (a.says (d := 179) rfl rfl (j 39 rfl)) (gv (by simp [go_sem, a.e 21 k35_21]) rfl),
  fun f s W g j l m n a => osure rfl rfl (a.says (d := 179) rfl rfl (j 39 rfl)) (gv (by simp [go_sem, a.e 180 (j 40 rfl), a.e 181 (j 41 rfl), habN, liN]) rfl),
  fun f s W g j l m n a => osure rfl rfl (a.says (d := 179) rfl rfl (j 39 rfl)) (by have cu := pp_nth (i := i) (q259'.below g (Nat.le_refl _)) habN (by rw [hN4]; exact hi4); rw [hNi i hi4] at cu; have cx_ : W.cell? ⟨bqN, oqN + i * 2, none⟩ = some (.int .i64 (((nthP L i).1) + le)) := cu.1; have cy_ : W.cell? ⟨bqN, oqN + i * 2 + 1, none⟩ = some (.int .i64 (((nthP L i).2) + le)) := cu.2; exact gv (by simp [go_sem, a.e 182 (j 42 rfl), cx_, cy_]) rfl),
  fun f s W g j l m n a => osure rfl rfl (a.says (d := 179) rfl rfl (j 39 rfl)) (gv (by simp [go_sem, a.e 11 k35_11]) rfl),
  fun f s W g j l m n a => osure rfl rfl (a.says (d := 179) rfl rfl (j 39 rfl)) (gv (by simp [go_sem, a.e 21 k35_21]) rfl),
  fun f s W g j l m n a => osure rfl rfl (a.says (d := 179) rfl rfl (j 39 rfl)) (gv (by simp [go_sem, a.e 184 (j 44 rfl), a.e 185 (j 45 rfl), habL, liL]) rfl),
  fun f s W g j l m n a => osure rfl rfl (a.says (d := 179) rfl rfl (j 39 rfl)) (gv (by simp [go_sem, a.e 186 (j 46 rfl)]) rfl),
  fun f s W g j l m n a => osure rfl rfl (a.says (d := 179) rfl rfl (j 39 rfl)) (by have aW := below_trans fA35 g; have cu := pp_nth (i := i) (ft_6.below aW (Nat.le_refl _)) habL (by rw [hL4]; exact hi4); have cx_ : W.cell? ⟨bqL, oqL + i * 2, none⟩ = some (.int .i64 (((nthP L i).1))) := cu.1; exact gv (by simp [go_sem, a.e 187 (j 47 rfl), cx_]) rfl),
  fun f s W g j l m n a => osure rfl rfl (a.says (d := 179) rfl rfl (j 39 rfl)) (gv (by simp [go_sem, a.e 13 k35_13]) rfl),
  fun f s W g j l m n a => osure rfl rfl (a.says (d := 179) rfl rfl (j 39 rfl)) (gv (by simp [go_sem, a.e 188 (j 48 rfl), a.e 189 (j 49 rfl), IntWalk.i64_in (((nthP L i).1) + le) (by omega)]) rfl),
  fun f s W g j l m n a => osure rfl rfl (a.says (d := 179) rfl rfl (j 39 rfl)) (gv (by simp [go_sem, a.e 11 k35_11]) rfl),
  fun f s W g j l m n a => osure rfl rfl (a.says (d := 179) rfl rfl (j 39 rfl)) (gv (by simp [go_sem, a.e 21 k35_21]) rfl),
  fun f s W g j l m n a => osure rfl rfl (a.says (d := 179) rfl rfl (j 39 rfl)) (gv (by simp [go_sem, a.e 191 (j 51 rfl), a.e 192 (j 52 rfl), habL, liL]) rfl),
  fun f s W g j l m n a => osure rfl rfl (a.says (d := 179) rfl rfl (j 39 rfl)) (gv (by simp [go_sem, a.e 193 (j 53 rfl)]) rfl),
  fun f s W g j l m n a => osure rfl rfl (a.says (d := 179) rfl rfl (j 39 rfl)) (by have aW := below_trans fA35 g; have cu := pp_nth (i := i) (ft_6.below aW (Nat.le_refl _)) habL (by rw [hL4]; exact hi4); have cx_ : W.cell? ⟨bqL, oqL + i * 2 + 1, none⟩ = some (.int .i64 (((nthP L i).2))) := cu.2; exact gv (by simp [go_sem, a.e 194 (j 54 rfl), cx_]) rfl),
  fun f s W g j l m n a => osure rfl rfl (a.says (d := 179) rfl rfl (j 39 rfl)) (gv (by simp [go_sem, a.e 13 k35_13]) rfl),
  fun f s W g j l m n a => osure rfl rfl (a.says (d := 179) rfl rfl (j 39 rfl)) (gv (by simp [go_sem, a.e 195 (j 55 rfl), a.e 196 (j 56 rfl), IntWalk.i64_in (((nthP L i).2) + le) (by omega)]) rfl),
  fun f s W g j l m n a => osure rfl rfl (a.says (d := 179) rfl rfl (j 39 rfl)) (gc (by simp [go_sem, a.e 190 (j 50 rfl), a.e 197 (j 57 rfl)]) (span_any (((nthP L i).1) + le) (((nthP L i).2) + le) W)),
  fun f s W g j l m n a => osure rfl rfl (a.says (d := 179) rfl rfl (j 39 rfl)) (gv (by simp [go_sem, a.e 183 (j 43 rfl), a.e 198 (j 58 rfl)]) rfl),
  fun f s W g j l m n a => opk (c := false) rfl rfl (fun _ => by simp [go_sem, a.e 179 (j 39 rfl), a.e 199 (j 59 rfl)]) (fun h => absurd h (by decide)), trivial⟩ ?_
  intro f36 s36 W36 hB36 g36 hg36
  have fB36 := hB36.f fB35
  have z36 := hB36.below.size
  have fA36 := hB36.f fA35
  have q260' := (q258'.bw hB36)
  have q261' := (q259'.bw hB36)
  refine hK38 _ _ ?_
  have k36_5 := kt hg36 5 k35_5
  have k36_6 := kt hg36 6 k35_6
  have k36_7 := kt hg36 7 k35_7
  have k36_9 := kt hg36 9 k35_9
  have k36_11 := kt hg36 11 k35_11
  have k36_13 := kt hg36 13 k35_13
  have k36_14 := kt hg36 14 k35_14
  have k36_17 := kt hg36 17 k35_17
  have k36_19 := kt hg36 19 k35_19
  have k36_21 := kt hg36 21 k35_21
  have k36_200 := kt hg36 200 (hB36.is 60)
  refine wp_cond_false ((fr_eval rfl).trans k36_200) ?_
  refine wp_skip ?_
  refine inBlock_normal ?_
  refine hK37 _ _ ?_
  as_aux_lemma =>
  refine region_dk 3 [(138, 0), (139, 1), (21, 2)] [[], [0], [0, 1]] (rel [is (.int .i64 ((i : Int))),
   is (.int .i64 ((i : Int) + 1)),
   is (.int .i64 ((i : Int) + 1))])
   ⟨is_k, is_k, is_k, trivial⟩
   ⟨fun f s W g j l m n a => opv rfl rfl (by simp [go_sem, a.e 21 ((m 2 21 rfl rfl).trans k36_21)]) rfl,
  fun f s W g j l m n a => opv rfl rfl (by simp [go_sem, a.e 138 (j 0 rfl), IntWalk.i64_in ((i : Int) + 1) (by omega)]) rfl,
  fun f s W g j l m n a => opv rfl rfl (by simp [go_sem, a.e 139 (j 1 rfl)]) rfl, trivial⟩ ?_
  intro f37 s37 W37 hB37 g37 hg37
  have fB37 := hB37.f fB36
  have z37 := hB37.below.size
  have fA37 := hB37.f fA36
  have q262' := (q260'.bw hB37)
  have q263' := (q261'.bw hB37)
  refine wpOps_end ?_
  have k37_5 := kt hg37 5 k36_5
  have k37_6 := kt hg37 6 k36_6
  have k37_7 := kt hg37 7 k36_7
  have k37_9 := kt hg37 9 k36_9
  have k37_11 := kt hg37 11 k36_11
  have k37_13 := kt hg37 13 k36_13
  have k37_14 := kt hg37 14 k36_14
  have k37_17 := kt hg37 17 k36_17
  have k37_19 := kt hg37 19 k36_19
  have k37_21 := kt hg37 21 (hB37.is 2)
  refine then_normal ?_
  exact ⟨_, by omega, g37, rfl, i + 1, rfl, k37_5, k37_6, k37_7, k37_9, k37_11, k37_13, k37_14, k37_17, k37_19, k37_21.trans (by go_num), fB37, (by omega), fA37, q262', q263', (by omega)⟩
 ·
  have hc36' := hc36; try simp only [ba] at hc36'
  refine wp_exit ?_
  refine then_exit ?_
  refine then_exit ?_
  refine inBlock_at ?_
  refine hK32 _ _ ?_
  have q264' := (ft_0.below fA35)
  have q265' := (ft_1.below fA35)
  have q266' := (ft_2.below fA35)
  have q267' := (ft_3.below fA35)
  have q268' := (ft_4.below fA35)
  have q269' := (ft_5.below fA35)
  have q270' := (ft_6.below fA35 (Nat.le_refl _))
  have q271' := (ft_7.below fA35)
  have q272' := (ft_8.below fA35)
  have q273' := (ft_9.below fA35)
  have bl274' := blk_below bl_0 fA35
  have bl275' := blk_below bl_1 fA35
  have bl276' := blk_below bl_2 fA35
  have bl277' := blk_below bl_3 fA35
  have bl278' := blk_below bl_4 fA35
  have bl279' := blk_below bl_5 fA35
  have bl280' := blk_below bl_6 fA35
  have bl281' := blk_below bl_7 fA35
  exact over_main_c18 x y gx gy v0 v1 v2 v3 gv0 gv1 gv2 gv3 b d lg p0 p1 p2 p3 hh t0 t1 u0 u1 op alo ahi clo chi le mo th0 th1 th2 L M N w hbx hby hcx hcy hbl hlg hle hmo hckb hckd hcklg gp0 gp1 gp2 gp3 j1 j2 j3 jc1 jc2 jc3 hL hM hN hL4 hM4 hN4 hLle hLb hMi hNi n1b n2b n3b n1d n2d n3d hmb hth0 hth1 hth2 gth0 gth1 gth2 hs1 hs2 hs3 hs4 hs5 g35 W35 bk0 bk1 bk3 a82' c83' a209' c210' a247' c248' g1' c4' g2' c5' g3' c6' g10' c13' g11' c14' g12' c15' g94' c97' g95' c98' g93' c96' bk6 bk7 bk2 bk4 bk5 k35_5 k35_6 k35_7 k35_9 k35_13 fB35 bl274' bl275' bl276' bl277' bl278' bl279' bl280' bl281' q264' q265' q266' q267' q268' q269' q270' q271' q272' q273' q258' q259' (by omega) (by omega) (by omega) (by omega) (by omega) (by omega) (by omega) (by omega) (by first | assumption | exact Ne.symm (by assumption) | omega) (by first | assumption | exact Ne.symm (by assumption) | omega) (by first | assumption | exact Ne.symm (by assumption) | omega) (by first | assumption | exact Ne.symm (by assumption) | omega) (by first | assumption | exact Ne.symm (by assumption) | omega) (by first | assumption | exact Ne.symm (by assumption) | omega) (by first | assumption | exact Ne.symm (by assumption) | omega) (by first | assumption | exact Ne.symm (by assumption) | omega) (by first | assumption | exact Ne.symm (by assumption) | omega) (by first | assumption | exact Ne.symm (by assumption) | omega) (by first | assumption | exact Ne.symm (by assumption) | omega) (by first | assumption | exact Ne.symm (by assumption) | omega) (by first | assumption | exact Ne.symm (by assumption) | omega) (by first | assumption | exact Ne.symm (by assumption) | omega) (by first | assumption | exact Ne.symm (by assumption) | omega) (by first | assumption | exact Ne.symm (by assumption) | omega) (by first | assumption | exact Ne.symm (by assumption) | omega) (by first | assumption | exact Ne.symm (by assumption) | omega) (by first | assumption | exact Ne.symm (by assumption) | omega) (by first | assumption | exact Ne.symm (by assumption) | omega) (by first | assumption | exact Ne.symm (by assumption) | omega) (by first | assumption | exact Ne.symm (by assumption) | omega) (by first | assumption | exact Ne.symm (by assumption) | omega) (by first | assumption | exact Ne.symm (by assumption) | omega) (by first | assumption | exact Ne.symm (by assumption) | omega) (by first | assumption | exact Ne.symm (by assumption) | omega) (by first | assumption | exact Ne.symm (by assumption) | omega) (by first | assumption | exact Ne.symm (by assumption) | omega) (by first | assumption | exact Ne.symm (by assumption) | omega) (by first | assumption | exact Ne.symm (by assumption) | omega) (by first | assumption | exact Ne.symm (by assumption) | omega) (by first | assumption | exact Ne.symm (by assumption) | omega) (by first | assumption | exact Ne.symm (by assumption) | omega) (by first | assumption | exact Ne.symm (by assumption) | omega) (by first | assumption | exact Ne.symm (by assumption) | omega) (by first | assumption | exact Ne.symm (by assumption) | omega) (by first | assumption | exact Ne.symm (by assumption) | omega) (by first | assumption | exact Ne.symm (by assumption) | omega) (by first | assumption | exact Ne.symm (by assumption) | omega) (by first | assumption | exact Ne.symm (by assumption) | omega) (by first | assumption | exact Ne.symm (by assumption) | omega) (by first | assumption | exact Ne.symm (by assumption) | omega) (by first | assumption | exact Ne.symm (by assumption) | omega) (by first | assumption | exact Ne.symm (by assumption) | omega) (by first | assumption | exact Ne.symm (by assumption) | omega) (by first | assumption | exact Ne.symm (by assumption) | omega) (by first | assumption | exact Ne.symm (by assumption) | omega) (by first | assumption | exact Ne.symm (by assumption) | omega) (by first | assumption | exact Ne.symm (by assumption) | omega) (by first | assumption | exact Ne.symm (by assumption) | omega) (by first | assumption | exact Ne.symm (by assumption) | omega) (by first | assumption | exact Ne.symm (by assumption) | omega) (by first | assumption | exact Ne.symm (by assumption) | omega) (by first | assumption | exact Ne.symm (by assumption) | omega) (by first | assumption | exact Ne.symm (by assumption) | omega)
end Go.Proofs.Ythnediamopehfaa
