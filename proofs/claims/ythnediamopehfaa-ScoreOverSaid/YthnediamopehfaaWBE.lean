/- Part of the proof: what the claim leans on. -/
import Derived.Test.YthnediamopehfaaWBD
set_option linter.unusedSimpArgs false
set_option linter.unusedVariables false
namespace Go.Proofs.Ythnediamopehfaa
open Go.RowKit
set_option maxRecDepth 100000 in
set_option maxHeartbeats 40000000 in
theorem over_main_c23 (x y : Sh) (gx : ShIn x) (gy : ShIn y) (v0 v1 v2 v3 : Int) (gv0 : 0 ≤ v0 ∧ v0 ≤ 255) (gv1 : 0 ≤ v1 ∧ v1 ≤ 255) (gv2 : 0 ≤ v2 ∧ v2 ≤ 255) (gv3 : 0 ≤ v3 ∧ v3 ≤ 255) (b d lg : Bl) (p0 p1 p2 p3 hh t0 t1 u0 u1 : Int) (op : Bool) (alo ahi clo chi le mo th0 th1 th2 : Int) (L M N : List Sp) (w : World) (hbx : shBl x = b) (hby : shBl y = d) (hcx : shCal x = (alo, ahi)) (hcy : shCal y = (clo, chi)) (hbl : b = ⟨30, [p0, p1, p2, p3], hh, [t0, t1], [u0, u1], 9, op⟩) (hlg : lg = ⟨30, [p0 + mo, p1 + mo, p2 + mo, p3 + mo], hh, [t0, t1], [u0, u1], 9, op⟩) (hle : v0 % 100 = le) (hmo : v1 % 40 = mo) (hckb : checkErr b = 0) (hckd : checkErr d = 0) (hcklg : checkErr lg = 0) (gp0 : 1 ≤ p0 ∧ p0 ≤ 400) (gp1 : 1 ≤ p1 ∧ p1 ≤ 400) (gp2 : 1 ≤ p2 ∧ p2 ≤ 400) (gp3 : 1 ≤ p3 ∧ p3 ≤ 400) (j1 : 200 ≤ alo) (j2 : alo ≤ ahi) (j3 : ahi ≤ 10000) (jc1 : 200 ≤ clo) (jc2 : clo ≤ chi) (jc3 : chi ≤ 10000) (hL : playL b d (alo, ahi) (clo, chi) = L) (hM : playL lg d (alo - le, ahi - le) (clo, chi) = M) (hN : playL b d (alo, ahi) (clo - le, chi - le) = N) (hL4 : L.length = 4) (hM4 : M.length = 4) (hN4 : N.length = 4) (hLle : ∀ i, i < 4 → ¬ (nthP L i).2 < (nthP L i).1) (hLb : ∀ i, i < 4 → (-1000000000 ≤ (nthP L i).1 ∧ (nthP L i).1 ≤ 1000000000) ∧ (-1000000000 ≤ (nthP L i).2 ∧ (nthP L i).2 ≤ 1000000000)) (hMi : ∀ i, i < 4 → nthP M i = (((nthP L i).1 + le) + (1000 * mo), ((nthP L i).2 + le) + (1000 * mo))) (hNi : ∀ i, i < 4 → nthP N i = ((nthP L i).1 + le, (nthP L i).2 + le)) (n1b : b.panels.length ≤ 1000) (n2b : b.top.length ≤ 1000) (n3b : b.bottom.length ≤ 1000) (n1d : d.panels.length ≤ 1000) (n2d : d.top.length ≤ 1000) (n3d : d.bottom.length ≤ 1000) (hmb : ∀ k, k < 5 → 0 ≤ mic b ahi k ∧ mic b ahi k ≤ 3000000) (hth0 : dn (min (mic b ahi 0) (mic b ahi 2)) = th0) (hth1 : dn (min (mic b ahi 1) (mic b ahi 3)) = th1) (hth2 : dn (mic b ahi 4) = th2) (gth0 : 0 ≤ th0 ∧ th0 ≤ 2000) (gth1 : 0 ≤ th1 ∧ th1 ≤ 2000) (gth2 : 0 ≤ th2 ∧ th2 ≤ 2000) (hs1 : insideB b ahi th0 th1 th2 = true) (hs2 : insideB b alo th0 th1 th2 = true) (hs3 : insideB b ahi th2 (max 0 (th0 - v2)) (max 0 (th1 - v3)) = true) (hs4 : insideB b (alo - le) th2 (max 0 (th0 - v2)) (max 0 (th1 - v3)) = true) (hs5 : insideB b ahi (th0 + 1) (th1 + 1) (th2 + 1) = false) (gz_ : Nat → Value) (Wz_ : World) (bk1 : Nat) (bk3 : Nat) (bk8 : Nat) (bk9 : Nat) (g1' : Nat) (c4' : Nat) (g2' : Nat) (c5' : Nat) (g3' : Nat) (c6' : Nat) (g10' : Nat) (c13' : Nat) (g11' : Nat) (c14' : Nat) (g12' : Nat) (c15' : Nat) (a82' : Option Addr) (c83' : Nat) (g94' : Nat) (c97' : Nat) (g95' : Nat) (c98' : Nat) (g93' : Nat) (c96' : Nat) (a209' : Option Addr) (c210' : Nat) (a247' : Option Addr) (c248' : Nat) (bk6 : Nat) (bk7 : Nat) (bk0 : Nat) (bk2 : Nat) (bk4 : Nat) (bk5 : Nat) (bk10 : Nat)  (k_6 : gz_ 6 = .bool false) (k_7 : gz_ 7 = .pointer (some ⟨bk1, 0, none⟩)) (k_9 : gz_ 9 = .pointer (some ⟨bk3, 0, none⟩)) (k_13 : gz_ 13 = .int .i64 le) (k_23 : gz_ 23 = .slice (some ⟨bk8, 0, none⟩) (3) (3)) (k_24 : gz_ 24 = .slice (some ⟨bk9, 0, none⟩) (3) (3)) (fB_ : Below w.heap.size w Wz_) (bl_0 : Wz_.heap[bk6]? = some (.cells #[.int .u8 x.x0, .int .u8 x.x1, .int .u8 x.x2, .int .u8 x.x3, .int .u8 x.xh, .int .u8 x.y0, .int .u8 x.y1, .int .u8 x.y2, .int .u8 x.y3, .bool x.xo, .int .u8 x.ca, .int .u8 x.cb, .int .u8 x.v0, .int .u8 x.v1, .int .u8 x.v2, .int .u8 x.v3, .int .u8 x.v4] 56 (0, 0))) (bl_1 : Wz_.heap[bk7]? = some (.cells #[.int .u8 y.x0, .int .u8 y.x1, .int .u8 y.x2, .int .u8 y.x3, .int .u8 y.xh, .int .u8 y.y0, .int .u8 y.y1, .int .u8 y.y2, .int .u8 y.y3, .bool y.xo, .int .u8 y.ca, .int .u8 y.cb, .int .u8 y.v0, .int .u8 y.v1, .int .u8 y.v2, .int .u8 y.v3, .int .u8 y.v4] 56 (0, 0))) (bl_2 : Wz_.heap[bk0]? = some (.cells #[.int .u8 v0, .int .u8 v1, .int .u8 v2, .int .u8 v3] 52 (0, 0))) (bl_3 : Wz_.heap[bk1]? = some (.cells #[.int .i64 b.tab, .slice (some ⟨g1', 0, none⟩) (b.panels.length) (c4'), .int .i64 b.height, .slice (some ⟨g2', 0, none⟩) (b.top.length) (c5'), .slice (some ⟨g3', 0, none⟩) (b.bottom.length) (c6'), .int .i64 b.slot, .bool b.isOpen] 24 (0, 0))) (bl_4 : Wz_.heap[bk2]? = some (.cells #[.int .i64 d.tab, .slice (some ⟨g10', 0, none⟩) (d.panels.length) (c13'), .int .i64 d.height, .slice (some ⟨g11', 0, none⟩) (d.top.length) (c14'), .slice (some ⟨g12', 0, none⟩) (d.bottom.length) (c15'), .int .i64 d.slot, .bool d.isOpen] 24 (0, 0))) (bl_5 : Wz_.heap[bk3]? = some (.cells #[.int .i64 alo, .int .i64 ahi] 37 (0, 0))) (bl_6 : Wz_.heap[bk4]? = some (.cells #[.int .i64 clo, .int .i64 chi] 37 (0, 0))) (bl_7 : Wz_.heap[bk5]? = some (.cells #[.int .i64 30, .slice (some ⟨g93', 0, none⟩) (4) (c96'), .int .i64 hh, .slice (some ⟨g94', 0, none⟩) (2) (c97'), .slice (some ⟨g95', 0, none⟩) (2) (c98'), .int .i64 9, .bool op] 24 (0, 0))) (bl_8 : Wz_.heap[bk10]? = some (.cells #[.int .i64 (mic b ahi 0), .int .i64 (mic b ahi 1), .int .i64 (mic b ahi 2), .int .i64 (mic b ahi 3), .int .i64 (mic b ahi 4), .int .i64 (mic b ahi 5), .int .i64 (mic b ahi 6), .int .i64 (mic b ahi 7), .int .i64 (mic b ahi 8)] 59 (0, 0))) (bl_9 : Wz_.heap[bk8]? = some (.cells #[.int .i64 th0, .int .i64 th1, .int .i64 th2] 3 (0, 0))) (bl_10 : Wz_.heap[bk9]? = some (.cells #[.int .i64 th2, .int .i64 (max 0 (th0 - v2)), .int .i64 (max 0 (th1 - v3))] 3 (0, 0))) (ft_0 : OwnI 0 b.panels g1' c4' Wz_) (ft_1 : OwnI 0 b.top g2' c5' Wz_) (ft_2 : OwnI 0 b.bottom g3' c6' Wz_) (ft_3 : OwnI 0 d.panels g10' c13' Wz_) (ft_4 : OwnI 0 d.top g11' c14' Wz_) (ft_5 : OwnI 0 d.bottom g12' c15' Wz_) (ft_6 : Pp Wz_ a82' L.length c83' L) (ft_7 : OwnI w.heap.size ([t0, t1]) g94' c97' Wz_) (ft_8 : OwnI w.heap.size ([u0, u1]) g95' c98' Wz_) (ft_9 : OwnI w.heap.size ([p0 + mo, p1 + mo, p2 + mo, p3 + mo]) g93' c96' Wz_) (ft_10 : Pp Wz_ a209' M.length c210' M) (ft_11 : Pp Wz_ a247' N.length c248' N) (lw_bk6 : w.heap.size ≤ bk6) (lw_bk7 : w.heap.size ≤ bk7) (lw_bk0 : w.heap.size ≤ bk0) (lw_bk1 : w.heap.size ≤ bk1) (lw_bk2 : w.heap.size ≤ bk2) (lw_bk3 : w.heap.size ≤ bk3) (lw_bk4 : w.heap.size ≤ bk4) (lw_bk5 : w.heap.size ≤ bk5) (lw_bk10 : w.heap.size ≤ bk10) (lw_bk8 : w.heap.size ≤ bk8) (lw_bk9 : w.heap.size ≤ bk9) (ne_0_1 : bk6 ≠ bk7) (ne_0_2 : bk6 ≠ bk0) (ne_1_2 : bk7 ≠ bk0) (ne_0_3 : bk6 ≠ bk1) (ne_1_3 : bk7 ≠ bk1) (ne_2_3 : bk0 ≠ bk1) (ne_0_4 : bk6 ≠ bk2) (ne_1_4 : bk7 ≠ bk2) (ne_2_4 : bk0 ≠ bk2) (ne_3_4 : bk1 ≠ bk2) (ne_0_5 : bk6 ≠ bk3) (ne_1_5 : bk7 ≠ bk3) (ne_2_5 : bk0 ≠ bk3) (ne_3_5 : bk1 ≠ bk3) (ne_4_5 : bk2 ≠ bk3) (ne_0_6 : bk6 ≠ bk4) (ne_1_6 : bk7 ≠ bk4) (ne_2_6 : bk0 ≠ bk4) (ne_3_6 : bk1 ≠ bk4) (ne_4_6 : bk2 ≠ bk4) (ne_5_6 : bk3 ≠ bk4) (ne_0_7 : bk6 ≠ bk5) (ne_1_7 : bk7 ≠ bk5) (ne_2_7 : bk0 ≠ bk5) (ne_3_7 : bk1 ≠ bk5) (ne_4_7 : bk2 ≠ bk5) (ne_5_7 : bk3 ≠ bk5) (ne_6_7 : bk4 ≠ bk5) (ne_0_8 : bk6 ≠ bk10) (ne_1_8 : bk7 ≠ bk10) (ne_2_8 : bk0 ≠ bk10) (ne_3_8 : bk1 ≠ bk10) (ne_4_8 : bk2 ≠ bk10) (ne_5_8 : bk3 ≠ bk10) (ne_6_8 : bk4 ≠ bk10) (ne_7_8 : bk5 ≠ bk10) (ne_0_9 : bk6 ≠ bk8) (ne_1_9 : bk7 ≠ bk8) (ne_2_9 : bk0 ≠ bk8) (ne_3_9 : bk1 ≠ bk8) (ne_4_9 : bk2 ≠ bk8) (ne_5_9 : bk3 ≠ bk8) (ne_6_9 : bk4 ≠ bk8) (ne_7_9 : bk5 ≠ bk8) (ne_8_9 : bk10 ≠ bk8) (ne_0_10 : bk6 ≠ bk9) (ne_1_10 : bk7 ≠ bk9) (ne_2_10 : bk0 ≠ bk9) (ne_3_10 : bk1 ≠ bk9) (ne_4_10 : bk2 ≠ bk9) (ne_5_10 : bk3 ≠ bk9) (ne_6_10 : bk4 ≠ bk9) (ne_7_10 : bk5 ≠ bk9) (ne_8_10 : bk10 ≠ bk9) (ne_9_10 : bk8 ≠ bk9) (ne_0_11 : bk6 ≠ g94') (ne_1_11 : bk7 ≠ g94') (ne_2_11 : bk0 ≠ g94') (ne_3_11 : bk1 ≠ g94') (ne_4_11 : bk2 ≠ g94') (ne_5_11 : bk3 ≠ g94') (ne_6_11 : bk4 ≠ g94') (ne_7_11 : bk5 ≠ g94') (ne_8_11 : bk10 ≠ g94') (ne_9_11 : bk8 ≠ g94') (ne_10_11 : bk9 ≠ g94') (ne_0_12 : bk6 ≠ g95') (ne_1_12 : bk7 ≠ g95') (ne_2_12 : bk0 ≠ g95') (ne_3_12 : bk1 ≠ g95') (ne_4_12 : bk2 ≠ g95') (ne_5_12 : bk3 ≠ g95') (ne_6_12 : bk4 ≠ g95') (ne_7_12 : bk5 ≠ g95') (ne_8_12 : bk10 ≠ g95') (ne_9_12 : bk8 ≠ g95') (ne_10_12 : bk9 ≠ g95') (ne_11_12 : g94' ≠ g95') (ne_0_13 : bk6 ≠ g93') (ne_1_13 : bk7 ≠ g93') (ne_2_13 : bk0 ≠ g93') (ne_3_13 : bk1 ≠ g93') (ne_4_13 : bk2 ≠ g93') (ne_5_13 : bk3 ≠ g93') (ne_6_13 : bk4 ≠ g93') (ne_7_13 : bk5 ≠ g93') (ne_8_13 : bk10 ≠ g93') (ne_9_13 : bk8 ≠ g93') (ne_10_13 : bk9 ≠ g93') (ne_11_13 : g94' ≠ g93') (ne_12_13 : g95' ≠ g93') :
  (tailC 14 (bodyC Try.f6)).wp Try.prog (bodyPost Try.prog Try.f6 (fun e w' => e = .returned (.bool true) ∧ Below w.heap.size w w')) (fr 334 gz_) Wz_ := by
 have hL4z : ((L.length : Int) != 4) = false := by rw [hL4]; rfl
 have hM4z : ((M.length : Int) != 4) = false := by rw [hM4]; rfl
 have hN4z : ((N.length : Int) != 4) = false := by rw [hN4]; rfl
 have hg0 := Int.not_lt.2 gth0.1
 have hg1 := Int.not_lt.2 gth1.1
 have hg2 := Int.not_lt.2 gth2.1
 have hmb0 := hmb 0 (by decide)
 have hmb1 := hmb 1 (by decide)
 have hmb2 := hmb 2 (by decide)
 have hmb3 := hmb 3 (by decide)
 have hmb4 := hmb 4 (by decide)
 have gle : 0 ≤ le ∧ le < 100 := by omega
 have gmo : 0 ≤ mo ∧ mo < 40 := by omega
 have lt_bk6 := lt_of_blk bl_0
 have lt_bk7 := lt_of_blk bl_1
 have lt_bk0 := lt_of_blk bl_2
 have lt_bk1 := lt_of_blk bl_3
 have lt_bk2 := lt_of_blk bl_4
 have lt_bk3 := lt_of_blk bl_5
 have lt_bk4 := lt_of_blk bl_6
 have lt_bk5 := lt_of_blk bl_7
 have lt_bk10 := lt_of_blk bl_8
 have lt_bk8 := lt_of_blk bl_9
 have lt_bk9 := lt_of_blk bl_10
 have lim305' := Pp.lim ft_6
 have lo_ft_7 := ft_7.lim
 have lo_ft_8 := ft_8.lim
 have lo_ft_9 := ft_9.lim
 have lim306' := Pp.lim ft_10
 have lim307' := Pp.lim ft_11
 have fA44 : Below Wz_.heap.size Wz_ Wz_ := Below.refl _ _
 refine wp_seq_k fun K46 hK46 => ?_
 as_aux_lemma =>
 refine region_dk 13 [(259, 0), (260, 1), (261, 2), (262, 3), (263, 4), (264, 5), (258, 6), (265, 7), (266, 8), (267, 9), (25, 10), (26, 11), (27, 12)] [[], [0], [], [], [0, 1, 3], [0, 1, 2, 3, 4], [0, 1, 2, 3, 4, 5], [0, 1, 2, 3, 4, 5, 6], [0, 1, 2, 3, 4, 5, 6], [0, 1, 2, 3, 4, 5, 6], [0, 1, 2, 3, 4, 5, 6, 7], [0, 1, 2, 3, 4, 5, 6, 7, 8, 10], [0, 1, 2, 3, 4, 5, 6, 7, 8, 9, 10, 11]] (rel [is (.agg #[.int .i64 b.tab, .slice (some ⟨g1', 0, none⟩) (b.panels.length) (c4'), .int .i64 b.height, .slice (some ⟨g2', 0, none⟩) (b.top.length) (c5'), .slice (some ⟨g3', 0, none⟩) (b.bottom.length) (c6'), .int .i64 b.slot, .bool b.isOpen]),
   fun v s W => NwBlk (s 1) (b) v W,
   is (.agg #[.int .i64 alo, .int .i64 ahi]),
   is (.slice (some ⟨bk8, 0, none⟩) (3) (3)),
   fun v s W => NwIi (s 4) ([th0, th1, th2]) v W,
   is (.tuple #[.bool true, .bool true, .int .i64 0]),
   is (.tuple #[.bool true, .bool true, .int .i64 0]),
   is (.bool true),
   is (.bool true),
   is (.int .i64 0),
   is (.bool true),
   is (.bool true),
   is (.int .i64 0)])
  ⟨is_k, ⟨fun v k W W' hb h => h.below hb, fun v s s' W e h => by have h' : NwBlk (s 1) (b) v W := h; show NwBlk (s' 1) (b) v W; rw [← e 1 (by simp)]; exact h'⟩, is_k, is_k, ⟨fun v k W W' hb h => h.below hb, fun v s s' W e h => by have h' : NwIi (s 4) ([th0, th1, th2]) v W := h; show NwIi (s' 4) ([th0, th1, th2]) v W; rw [← e 4 (by simp)]; exact h'⟩, is_k, is_k, is_k, is_k, is_k, is_k, is_k, is_k, trivial⟩
  ⟨fun f s W g j l m n a => by have aW := below_trans fA44 g; exact opl rfl rfl rfl (a.v 7 k_7) (blk_below bl_3 aW) Try.underlying24 rfl (by kernel_rfl) rfl,
  fun f s W g j l m n a => by have aW := below_trans fA44 g; exact opDo_call (args := #[.agg #[.int .i64 b.tab, .slice (some ⟨g1', 0, none⟩) (b.panels.length) (c4'), .int .i64 b.height, .slice (some ⟨g2', 0, none⟩) (b.top.length) (c5'), .slice (some ⟨g3', 0, none⟩) (b.bottom.length) (c6'), .int .i64 b.slot, .bool b.isOpen]]) rfl rfl (by simp [go_sem, a.e 259 (j 0 rfl)]) (own_any _ _ _ _ _ _ b W ((ft_0.below aW)).ii ((ft_1.below aW)).ii ((ft_2.below aW)).ii n1b n2b n3b) (fun e W' h => by obtain ⟨v, e1, h1, h2⟩ := h; exact ⟨v, e1, h2, (show NwBlk (upd s 1 W.heap.size 1) (b) v W' from by rw [upd_at]; exact h1)⟩),
  fun f s W g j l m n a => by have aW := below_trans fA44 g; exact opv rfl rfl (by simp [go_sem, a.e 9 k_9, cb bl_5 aW 0, cb bl_5 aW 1]) rfl,
  fun f s W g j l m n a => opv rfl rfl (by simp [go_sem, a.e 23 k_23]) rfl,
  fun f s W g j l m n a => by have aW := below_trans fA44 g; exact opDo_call (args := #[.slice (some ⟨bk8, 0, none⟩) (3) (3)]) rfl rfl (by simp [go_sem, a.e 262 (j 3 rfl)]) (ints_any _ _ [th0, th1, th2] W (ii_block (xs := [th0, th1, th2]) (blk_below bl_9 aW) rfl rfl) (by simp)) (fun e W' h => by obtain ⟨v, e1, h1, h2⟩ := h; exact ⟨v, e1, h2, (show NwIi (upd s 4 W.heap.size 4) ([th0, th1, th2]) v W' from by rw [upd_at]; exact h1)⟩),
  fun f s W g j l m n a => by obtain ⟨g308', c311', g309', c312', g310', c313', d1, ⟨q314', q316', q315'⟩, ⟨q317', q319', q318'⟩, ⟨q320', q322', q321'⟩⟩ := (j 1 rfl); obtain ⟨g323', c324', d4, q325', q327', q326'⟩ := (j 4 rfl); exact opc (args := #[.agg #[.int .i64 b.tab, .slice (some ⟨g308', 0, none⟩) (b.panels.length) (c311'), .int .i64 b.height, .slice (some ⟨g309', 0, none⟩) (b.top.length) (c312'), .slice (some ⟨g310', 0, none⟩) (b.bottom.length) (c313'), .int .i64 b.slot, .bool b.isOpen], .agg #[.int .i64 alo, .int .i64 ahi], .slice (some ⟨g323', 0, none⟩) (([th0, th1, th2]).length) (c324')]) rfl rfl (by simp [go_sem, a.e 260 d1, a.e 261 (j 2 rfl), a.e 263 d4]) (holds_in (b := b) (x := th0) (y := th1) (z := th2) W ⟨_, _, _, _, _, _, _, _, _, rfl, q314', q317', q320'⟩ q325' hckb (by omega) (by omega) (by omega) (by omega) (by omega) (by omega) hs1 hs2),
  fun f s W g j l m n a => opv rfl rfl (by simp [go_sem, a.e 264 (j 5 rfl)]) rfl,
  fun f s W g j l m n a => opv rfl rfl (by simp [go_sem, a.e 258 (j 6 rfl)]) rfl,
  fun f s W g j l m n a => opv rfl rfl (by simp [go_sem, a.e 258 (j 6 rfl)]) rfl,
  fun f s W g j l m n a => opv rfl rfl (by simp [go_sem, a.e 258 (j 6 rfl)]) rfl,
  fun f s W g j l m n a => opv rfl rfl (by simp [go_sem, a.e 265 (j 7 rfl)]) rfl,
  fun f s W g j l m n a => opv rfl rfl (by simp [go_sem, a.e 266 (j 8 rfl)]) rfl,
  fun f s W g j l m n a => opv rfl rfl (by simp [go_sem, a.e 267 (j 9 rfl)]) rfl, trivial⟩ ?_
 intro f45 s45 W45 hB45 g45 hg45
 have fB45 := hB45.f fB_
 have z45 := hB45.below.size
 have fA45 := hB45.f fA44
 refine hK46 _ _ ?_
 have k45_6 := kt hg45 6 k_6
 have k45_7 := kt hg45 7 k_7
 have k45_9 := kt hg45 9 k_9
 have k45_13 := kt hg45 13 k_13
 have k45_23 := kt hg45 23 k_23
 have k45_24 := kt hg45 24 k_24
 have k45_25 := kt hg45 25 (hB45.is 10)
 have k45_26 := kt hg45 26 (hB45.is 11)
 have k45_27 := kt hg45 27 (hB45.is 12)
 refine wp_seq_k fun K47 hK47 => ?_
 as_aux_lemma =>
 refine region_dk 18 [(269, 0), (270, 1), (271, 2), (272, 3), (273, 4), (274, 5), (275, 6), (276, 7), (277, 8), (278, 9), (279, 10), (268, 11), (280, 12), (281, 13), (282, 14), (28, 15), (29, 16), (30, 17)] [[], [0], [], [2], [], [2, 3, 4], [], [6], [0, 1, 2, 3, 4, 5, 6, 7], [], [0, 1, 2, 3, 4, 5, 6, 7, 8, 9], [0, 1, 2, 3, 4, 5, 6, 7, 8, 9, 10], [0, 1, 2, 3, 4, 5, 6, 7, 8, 9, 10, 11], [0, 1, 2, 3, 4, 5, 6, 7, 8, 9, 10, 11], [0, 1, 2, 3, 4, 5, 6, 7, 8, 9, 10, 11], [0, 1, 2, 3, 4, 5, 6, 7, 8, 9, 10, 11, 12], [0, 1, 2, 3, 4, 5, 6, 7, 8, 9, 10, 11, 12, 13, 15], [0, 1, 2, 3, 4, 5, 6, 7, 8, 9, 10, 11, 12, 13, 14, 15, 16]] (rel [is (.agg #[.int .i64 b.tab, .slice (some ⟨g1', 0, none⟩) (b.panels.length) (c4'), .int .i64 b.height, .slice (some ⟨g2', 0, none⟩) (b.top.length) (c5'), .slice (some ⟨g3', 0, none⟩) (b.bottom.length) (c6'), .int .i64 b.slot, .bool b.isOpen]),
   fun v s W => NwBlk (s 1) (b) v W,
   is (.pointer (some ⟨bk3, 0, none⟩)),
   is (.int .i64 alo),
   is (.int .i64 le),
   is (.int .i64 (alo - le)),
   is (.pointer (some ⟨bk3, 1, none⟩)),
   is (.int .i64 ahi),
   is (.agg #[.int .i64 (alo - le), .int .i64 ahi]),
   is (.slice (some ⟨bk9, 0, none⟩) (3) (3)),
   is (.tuple #[.bool true, .bool true, .int .i64 0]),
   is (.tuple #[.bool true, .bool true, .int .i64 0]),
   is (.bool true),
   is (.bool true),
   is (.int .i64 0),
   is (.bool true),
   is (.bool true),
   is (.int .i64 0)])
  ⟨is_k, ⟨fun v k W W' hb h => h.below hb, fun v s s' W e h => by have h' : NwBlk (s 1) (b) v W := h; show NwBlk (s' 1) (b) v W; rw [← e 1 (by simp)]; exact h'⟩, is_k, is_k, is_k, is_k, is_k, is_k, is_k, is_k, is_k, is_k, is_k, is_k, is_k, is_k, is_k, is_k, trivial⟩
  ⟨fun f s W g j l m n a => by have aW := below_trans fA45 g; exact opl rfl rfl rfl (a.v 7 k45_7) (blk_below bl_3 aW) Try.underlying24 rfl (by kernel_rfl) rfl,
  fun f s W g j l m n a => by have aW := below_trans fA45 g; exact opDo_call (args := #[.agg #[.int .i64 b.tab, .slice (some ⟨g1', 0, none⟩) (b.panels.length) (c4'), .int .i64 b.height, .slice (some ⟨g2', 0, none⟩) (b.top.length) (c5'), .slice (some ⟨g3', 0, none⟩) (b.bottom.length) (c6'), .int .i64 b.slot, .bool b.isOpen]]) rfl rfl (by simp [go_sem, a.e 269 (j 0 rfl)]) (own_any _ _ _ _ _ _ b W ((ft_0.below aW)).ii ((ft_1.below aW)).ii ((ft_2.below aW)).ii n1b n2b n3b) (fun e W' h => by obtain ⟨v, e1, h1, h2⟩ := h; exact ⟨v, e1, h2, (show NwBlk (upd s 1 W.heap.size 1) (b) v W' from by rw [upd_at]; exact h1)⟩),
  fun f s W g j l m n a => opv rfl rfl (by simp [go_sem, a.e 9 k45_9]) rfl,
  fun f s W g j l m n a => by have aW := below_trans fA45 g; exact opv rfl rfl (by simp [go_sem, a.e 271 (j 2 rfl), cb bl_5 aW 0]) rfl,
  fun f s W g j l m n a => opv rfl rfl (by simp [go_sem, a.e 13 k45_13]) rfl,
  fun f s W g j l m n a => opv rfl rfl (by simp [go_sem, a.e 272 (j 3 rfl), a.e 273 (j 4 rfl), IntWalk.i64_in (alo - le) (by omega)]) rfl,
  fun f s W g j l m n a => opv rfl rfl (by simp [go_sem, a.e 9 k45_9]) rfl,
  fun f s W g j l m n a => by have aW := below_trans fA45 g; exact opv rfl rfl (by simp [go_sem, a.e 275 (j 6 rfl), cb bl_5 aW 1]) rfl,
  fun f s W g j l m n a => opc rfl rfl (by simp [go_sem, a.e 274 (j 5 rfl), a.e 276 (j 7 rfl)]) (span_any (alo - le) (ahi) W),
  fun f s W g j l m n a => opv rfl rfl (by simp [go_sem, a.e 24 k45_24]) rfl,
  fun f s W g j l m n a => by obtain ⟨g328', c331', g329', c332', g330', c333', d1, ⟨q334', q336', q335'⟩, ⟨q337', q339', q338'⟩, ⟨q340', q342', q341'⟩⟩ := (j 1 rfl); have aW := below_trans fA45 g; exact opc (args := #[.agg #[.int .i64 b.tab, .slice (some ⟨g328', 0, none⟩) (b.panels.length) (c331'), .int .i64 b.height, .slice (some ⟨g329', 0, none⟩) (b.top.length) (c332'), .slice (some ⟨g330', 0, none⟩) (b.bottom.length) (c333'), .int .i64 b.slot, .bool b.isOpen], .agg #[.int .i64 (alo - le), .int .i64 ahi], .slice (some ⟨bk9, 0, none⟩) (3) (3)]) rfl rfl (by simp [go_sem, a.e 270 d1, a.e 277 (j 8 rfl), a.e 278 (j 9 rfl)]) (holds_in (b := b) (x := th2) (y := max 0 (th0 - v2)) (z := max 0 (th1 - v3)) W ⟨_, _, _, _, _, _, _, _, _, rfl, q334', q337', q340'⟩ (ii_block (xs := [th2, max 0 (th0 - v2), max 0 (th1 - v3)]) (blk_below bl_10 aW) rfl rfl) hckb (by omega) (by omega) (by omega) (by omega) (by omega) (by omega) hs3 hs4),
  fun f s W g j l m n a => opv rfl rfl (by simp [go_sem, a.e 279 (j 10 rfl)]) rfl,
  fun f s W g j l m n a => opv rfl rfl (by simp [go_sem, a.e 268 (j 11 rfl)]) rfl,
  fun f s W g j l m n a => opv rfl rfl (by simp [go_sem, a.e 268 (j 11 rfl)]) rfl,
  fun f s W g j l m n a => opv rfl rfl (by simp [go_sem, a.e 268 (j 11 rfl)]) rfl,
  fun f s W g j l m n a => opv rfl rfl (by simp [go_sem, a.e 280 (j 12 rfl)]) rfl,
  fun f s W g j l m n a => opv rfl rfl (by simp [go_sem, a.e 281 (j 13 rfl)]) rfl,
  fun f s W g j l m n a => opv rfl rfl (by simp [go_sem, a.e 282 (j 14 rfl)]) rfl, trivial⟩ ?_
 intro f46 s46 W46 hB46 g46 hg46
 have fB46 := hB46.f fB45
 have z46 := hB46.below.size
 have fA46 := hB46.f fA45
 refine hK47 _ _ ?_
 have k46_6 := kt hg46 6 k45_6
 have k46_7 := kt hg46 7 k45_7
 have k46_9 := kt hg46 9 k45_9
 have k46_23 := kt hg46 23 k45_23
 have k46_25 := kt hg46 25 k45_25
 have k46_26 := kt hg46 26 k45_26
 have k46_27 := kt hg46 27 k45_27
 have k46_28 := kt hg46 28 (hB46.is 15)
 have k46_29 := kt hg46 29 (hB46.is 16)
 have k46_30 := kt hg46 30 (hB46.is 17)
 refine wp_seq_k fun K48 hK48 => ?_
 as_aux_lemma =>
 refine region_dk 14 [(283, 0), (284, 1), (285, 2), (286, 3), (287, 4), (288, 5), (289, 6), (290, 7), (291, 8), (292, 9), (293, 10), (294, 11), (295, 12), (31, 13)] [[], [0], [0, 1], [0, 1, 2], [], [4], [4, 5], [4, 5, 6], [], [8], [8, 9], [8, 9, 10], [0, 1, 2, 3, 4, 5, 6, 7, 8, 9, 10, 11], [0, 1, 2, 3, 4, 5, 6, 7, 8, 9, 10, 11, 12]] (rel [is (.slice (some ⟨bk8, 0, none⟩) (3) (3)),
   is (.pointer (some ⟨bk8, 0, none⟩)),
   is (.int .i64 th0),
   is (.int .i64 (th0 + 1)),
   is (.slice (some ⟨bk8, 0, none⟩) (3) (3)),
   is (.pointer (some ⟨bk8, 1, none⟩)),
   is (.int .i64 th1),
   is (.int .i64 (th1 + 1)),
   is (.slice (some ⟨bk8, 0, none⟩) (3) (3)),
   is (.pointer (some ⟨bk8, 2, none⟩)),
   is (.int .i64 th2),
   is (.int .i64 (th2 + 1)),
   row 12 3 #[.int .i64 (th0 + 1), .int .i64 (th1 + 1), .int .i64 (th2 + 1)] 3,
   isS fun s => .slice (some ⟨(s 12), 0, none⟩) (3) (3)])
  ⟨is_k, is_k, is_k, is_k, is_k, is_k, is_k, is_k, is_k, is_k, is_k, is_k, row_k, isS_k fun s s' e => by rw [e 12 (by simp)], trivial⟩
  ⟨fun f s W g j l m n a => opv rfl rfl (by simp [go_sem, a.e 23 k46_23]) rfl,
  fun f s W g j l m n a => opv rfl rfl (by simp [go_sem, a.e 283 (j 0 rfl)]) rfl,
  fun f s W g j l m n a => by have aW := below_trans fA46 g; exact opv rfl rfl (by simp [go_sem, a.e 284 (j 1 rfl), cb bl_9 aW 0]) rfl,
  fun f s W g j l m n a => opv rfl rfl (by simp [go_sem, a.e 285 (j 2 rfl), IntWalk.i64_in (th0 + 1) (by omega)]) rfl,
  fun f s W g j l m n a => opv rfl rfl (by simp [go_sem, a.e 23 k46_23]) rfl,
  fun f s W g j l m n a => opv rfl rfl (by simp [go_sem, a.e 287 (j 4 rfl)]) rfl,
  fun f s W g j l m n a => by have aW := below_trans fA46 g; exact opv rfl rfl (by simp [go_sem, a.e 288 (j 5 rfl), cb bl_9 aW 1]) rfl,
  fun f s W g j l m n a => opv rfl rfl (by simp [go_sem, a.e 289 (j 6 rfl), IntWalk.i64_in (th1 + 1) (by omega)]) rfl,
  fun f s W g j l m n a => opv rfl rfl (by simp [go_sem, a.e 23 k46_23]) rfl,
  fun f s W g j l m n a => opv rfl rfl (by simp [go_sem, a.e 291 (j 8 rfl)]) rfl,
  fun f s W g j l m n a => by have aW := below_trans fA46 g; exact opv rfl rfl (by simp [go_sem, a.e 292 (j 9 rfl), cb bl_9 aW 2]) rfl,
  fun f s W g j l m n a => opv rfl rfl (by simp [go_sem, a.e 293 (j 10 rfl), IntWalk.i64_in (th2 + 1) (by omega)]) rfl,
  fun f s W g j l m n a => opr rfl rfl (by simp [go_sem, a.e 286 (j 3 rfl), a.e 290 (j 7 rfl), a.e 294 (j 11 rfl)]),
  fun f s W g j l m n a => opv rfl rfl (by simp [go_sem, a.e 295 (j 12 rfl).1, upd]) rfl, trivial⟩ ?_
 intro f47 s47 W47 hB47 g47 hg47
 have fB47 := hB47.f fB46
 have z47 := hB47.below.size
 have fA47 := hB47.f fA46
 obtain ⟨r47_12, br47_12⟩ := hB47.is 12
 have lr47_12 := hB47.lr 12 br47_12
 refine hK48 _ _ ?_
 have k47_6 := kt hg47 6 k46_6
 have k47_7 := kt hg47 7 k46_7
 have k47_9 := kt hg47 9 k46_9
 have k47_25 := kt hg47 25 k46_25
 have k47_26 := kt hg47 26 k46_26
 have k47_27 := kt hg47 27 k46_27
 have k47_28 := kt hg47 28 k46_28
 have k47_29 := kt hg47 29 k46_29
 have k47_30 := kt hg47 30 k46_30
 have k47_31 := kt hg47 31 (hB47.is 13)
 refine wp_seq_k fun K49 hK49 => ?_
 as_aux_lemma =>
 refine region_dk 12 [(297, 0), (298, 1), (299, 2), (300, 3), (301, 4), (296, 5), (302, 6), (303, 7), (304, 8), (32, 9), (33, 10), (34, 11)] [[], [0], [], [], [0, 1, 2, 3], [0, 1, 2, 3, 4], [0, 1, 2, 3, 4, 5], [0, 1, 2, 3, 4, 5], [0, 1, 2, 3, 4, 5], [0, 1, 2, 3, 4, 5, 6], [0, 1, 2, 3, 4, 5, 6, 7, 9], [0, 1, 2, 3, 4, 5, 6, 7, 8, 9, 10]] (rel [is (.agg #[.int .i64 b.tab, .slice (some ⟨g1', 0, none⟩) (b.panels.length) (c4'), .int .i64 b.height, .slice (some ⟨g2', 0, none⟩) (b.top.length) (c5'), .slice (some ⟨g3', 0, none⟩) (b.bottom.length) (c6'), .int .i64 b.slot, .bool b.isOpen]),
   fun v s W => NwBlk (s 1) (b) v W,
   is (.agg #[.int .i64 alo, .int .i64 ahi]),
   is (.slice (some ⟨(s47 12), 0, none⟩) (3) (3)),
   is (.tuple #[.bool false, .bool ((insideB b alo (th0 + 1) (th1 + 1) (th2 + 1))), .int .i64 0]),
   is (.tuple #[.bool false, .bool ((insideB b alo (th0 + 1) (th1 + 1) (th2 + 1))), .int .i64 0]),
   is (.bool false),
   is (.bool ((insideB b alo (th0 + 1) (th1 + 1) (th2 + 1)))),
   is (.int .i64 0),
   is (.bool false),
   is (.bool ((insideB b alo (th0 + 1) (th1 + 1) (th2 + 1)))),
   is (.int .i64 0)])
  ⟨is_k, ⟨fun v k W W' hb h => h.below hb, fun v s s' W e h => by have h' : NwBlk (s 1) (b) v W := h; show NwBlk (s' 1) (b) v W; rw [← e 1 (by simp)]; exact h'⟩, is_k, is_k, is_k, is_k, is_k, is_k, is_k, is_k, is_k, is_k, trivial⟩
  ⟨fun f s W g j l m n a => by have aW := below_trans fA47 g; exact opl rfl rfl rfl (a.v 7 k47_7) (blk_below bl_3 aW) Try.underlying24 rfl (by kernel_rfl) rfl,
  fun f s W g j l m n a => by have aW := below_trans fA47 g; exact opDo_call (args := #[.agg #[.int .i64 b.tab, .slice (some ⟨g1', 0, none⟩) (b.panels.length) (c4'), .int .i64 b.height, .slice (some ⟨g2', 0, none⟩) (b.top.length) (c5'), .slice (some ⟨g3', 0, none⟩) (b.bottom.length) (c6'), .int .i64 b.slot, .bool b.isOpen]]) rfl rfl (by simp [go_sem, a.e 297 (j 0 rfl)]) (own_any _ _ _ _ _ _ b W ((ft_0.below aW)).ii ((ft_1.below aW)).ii ((ft_2.below aW)).ii n1b n2b n3b) (fun e W' h => by obtain ⟨v, e1, h1, h2⟩ := h; exact ⟨v, e1, h2, (show NwBlk (upd s 1 W.heap.size 1) (b) v W' from by rw [upd_at]; exact h1)⟩),
  fun f s W g j l m n a => by have aW := below_trans fA47 g; exact opv rfl rfl (by simp [go_sem, a.e 9 k47_9, cb bl_5 aW 0, cb bl_5 aW 1]) rfl,
  fun f s W g j l m n a => opv rfl rfl (by simp [go_sem, a.e 31 k47_31]) rfl,
  fun f s W g j l m n a => by obtain ⟨g343', c346', g344', c347', g345', c348', d1, ⟨q349', q351', q350'⟩, ⟨q352', q354', q353'⟩, ⟨q355', q357', q356'⟩⟩ := (j 1 rfl); exact opc (args := #[.agg #[.int .i64 b.tab, .slice (some ⟨g343', 0, none⟩) (b.panels.length) (c346'), .int .i64 b.height, .slice (some ⟨g344', 0, none⟩) (b.top.length) (c347'), .slice (some ⟨g345', 0, none⟩) (b.bottom.length) (c348'), .int .i64 b.slot, .bool b.isOpen], .agg #[.int .i64 alo, .int .i64 ahi], .slice (some ⟨(s47 12), 0, none⟩) (3) (3)]) rfl rfl (by simp [go_sem, a.e 298 d1, a.e 299 (j 2 rfl), a.e 300 (j 3 rfl)]) (holds_in (b := b) (x := th0 + 1) (y := th1 + 1) (z := th2 + 1) W ⟨_, _, _, _, _, _, _, _, _, rfl, q349', q352', q355'⟩ (ii_block (xs := [th0 + 1, th1 + 1, th2 + 1]) (blk_below br47_12 g) rfl rfl) hckb (by omega) (by omega) (by omega) (by omega) (by omega) (by omega) hs5 rfl),
  fun f s W g j l m n a => opv rfl rfl (by simp [go_sem, a.e 301 (j 4 rfl)]) rfl,
  fun f s W g j l m n a => opv rfl rfl (by simp [go_sem, a.e 296 (j 5 rfl)]) rfl,
  fun f s W g j l m n a => opv rfl rfl (by simp [go_sem, a.e 296 (j 5 rfl)]) rfl,
  fun f s W g j l m n a => opv rfl rfl (by simp [go_sem, a.e 296 (j 5 rfl)]) rfl,
  fun f s W g j l m n a => opv rfl rfl (by simp [go_sem, a.e 302 (j 6 rfl)]) rfl,
  fun f s W g j l m n a => opv rfl rfl (by simp [go_sem, a.e 303 (j 7 rfl)]) rfl,
  fun f s W g j l m n a => opv rfl rfl (by simp [go_sem, a.e 304 (j 8 rfl)]) rfl, trivial⟩ ?_
 intro f48 s48 W48 hB48 g48 hg48
 have fB48 := hB48.f fB47
 have z48 := hB48.below.size
 have fA48 := hB48.f fA47
 have b48_11 := hB48.b br47_12
 refine hK49 _ _ ?_
 have k48_6 := kt hg48 6 k47_6
 have k48_25 := kt hg48 25 k47_25
 have k48_26 := kt hg48 26 k47_26
 have k48_27 := kt hg48 27 k47_27
 have k48_28 := kt hg48 28 k47_28
 have k48_29 := kt hg48 29 k47_29
 have k48_30 := kt hg48 30 k47_30
 have k48_32 := kt hg48 32 (hB48.is 9)
 have k48_34 := kt hg48 34 (hB48.is 11)
 refine wp_seq_k fun K50 hK50 => ?_
 as_aux_lemma =>
 refine region_dk 30 [(305, 0), (306, 1), (307, 2), (308, 3), (309, 4), (310, 5), (311, 6), (312, 7), (313, 8), (314, 9), (315, 10), (316, 11), (317, 12), (318, 13), (319, 14), (320, 15), (321, 16), (322, 17), (323, 18), (324, 19), (325, 20), (326, 21), (327, 22), (328, 23), (329, 24), (330, 25), (331, 26), (332, 27), (333, 28), (6, 29)] [[], [0], [0, 1], [0, 1, 2], [0, 1, 2, 3], [0, 1, 2, 3, 4], [0, 1, 2, 3, 4, 5], [0, 1, 2, 3, 4, 5, 6], [0, 1, 2, 3, 4, 5, 6, 7], [0, 1, 2, 3, 4, 5, 6, 7, 8], [0, 1, 2, 3, 4, 5, 6, 7, 8, 9], [0, 1, 2, 3, 4, 5, 6, 7, 8, 9, 10], [0, 1, 2, 3, 4, 5, 6, 7, 8, 9, 10, 11], [0, 1, 2, 3, 4, 5, 6, 7, 8, 9, 10, 11, 12], [0, 1, 2, 3, 4, 5, 6, 7, 8, 9, 10, 11, 12, 13], [0, 1, 2, 3, 4, 5, 6, 7, 8, 9, 10, 11, 12, 13, 14], [0, 1, 2, 3, 4, 5, 6, 7, 8, 9, 10, 11, 12, 13, 14, 15], [0, 1, 2, 3, 4, 5, 6, 7, 8, 9, 10, 11, 12, 13, 14, 15, 16], [0, 1, 2, 3, 4, 5, 6, 7, 8, 9, 10, 11, 12, 13, 14, 15, 16, 17], [0, 1, 2, 3, 4, 5, 6, 7, 8, 9, 10, 11, 12, 13, 14, 15, 16, 17, 18], [0, 1, 2, 3, 4, 5, 6, 7, 8, 9, 10, 11, 12, 13, 14, 15, 16, 17, 18, 19], [0, 1, 2, 3, 4, 5, 6, 7, 8, 9, 10, 11, 12, 13, 14, 15, 16, 17, 18, 19, 20], [0, 1, 2, 3, 4, 5, 6, 7, 8, 9, 10, 11, 12, 13, 14, 15, 16, 17, 18, 19, 20, 21], [0, 1, 2, 3, 4, 5, 6, 7, 8, 9, 10, 11, 12, 13, 14, 15, 16, 17, 18, 19, 20, 21, 22], [0, 1, 2, 3, 4, 5, 6, 7, 8, 9, 10, 11, 12, 13, 14, 15, 16, 17, 18, 19, 20, 21, 22, 23], [0, 1, 2, 3, 4, 5, 6, 7, 8, 9, 10, 11, 12, 13, 14, 15, 16, 17, 18, 19, 20, 21, 22, 23, 24], [0, 1, 2, 3, 4, 5, 6, 7, 8, 9, 10, 11, 12, 13, 14, 15, 16, 17, 18, 19, 20, 21, 22, 23, 24, 25], [0, 1, 2, 3, 4, 5, 6, 7, 8, 9, 10, 11, 12, 13, 14, 15, 16, 17, 18, 19, 20, 21, 22, 23, 24, 25, 26], [0, 1, 2, 3, 4, 5, 6, 7, 8, 9, 10, 11, 12, 13, 14, 15, 16, 17, 18, 19, 20, 21, 22, 23, 24, 25, 26, 27], [0, 1, 2, 3, 4, 5, 6, 7, 8, 9, 10, 11, 12, 13, 14, 15, 16, 17, 18, 19, 20, 21, 22, 23, 24, 25, 26, 27, 28]] (rel [is (.int .i64 0),
   is (.bool true),
   is (.bool true),
   is (.int .i64 0),
   is (.bool true),
   is (.bool true),
   is (.bool true),
   is (.int .i64 0),
   is (.bool true),
   is (.bool true),
   is (.bool true),
   is (.bool true),
   is (.bool true),
   is (.bool true),
   is (.bool true),
   is (.bool true),
   is (.bool true),
   is (.bool true),
   is (.bool true),
   is (.bool true),
   is (.bool true),
   is (.bool true),
   is (.bool true),
   is (.bool false),
   is (.bool true),
   is (.bool true),
   is (.bool true),
   is (.bool true),
   is (.bool true),
   is (.bool true)])
  ⟨is_k, is_k, is_k, is_k, is_k, is_k, is_k, is_k, is_k, is_k, is_k, is_k, is_k, is_k, is_k, is_k, is_k, is_k, is_k, is_k, is_k, is_k, is_k, is_k, is_k, is_k, is_k, is_k, is_k, is_k, trivial⟩
  ⟨fun f s W g j l m n a => opv rfl rfl (by simp [go_sem, a.e 27 k48_27]) rfl,
  fun f s W g j l m n a => opv rfl rfl (by simp [go_sem, a.e 305 (j 0 rfl)]) rfl,
  fun f s W g j l m n a => opv rfl rfl (by simp [go_sem, a.e 306 (j 1 rfl)]) rfl,
  fun f s W g j l m n a => osure rfl rfl (a.says (d := 307) rfl rfl (j 2 rfl)) (gv (by simp [go_sem, a.e 30 k48_30]) rfl),
  fun f s W g j l m n a => osure rfl rfl (a.says (d := 307) rfl rfl (j 2 rfl)) (gv (by simp [go_sem, a.e 308 (j 3 rfl)]) rfl),
  fun f s W g j l m n a => opk (c := true) rfl rfl (fun h => absurd h (by decide)) (fun _ => by simp [go_sem, a.e 307 (j 2 rfl), a.e 309 (j 4 rfl)]),
  fun f s W g j l m n a => opv rfl rfl (by simp [go_sem, a.e 310 (j 5 rfl)]) rfl,
  fun f s W g j l m n a => osure rfl rfl (a.says (d := 311) rfl rfl (j 6 rfl)) (gv (by simp [go_sem, a.e 34 k48_34]) rfl),
  fun f s W g j l m n a => osure rfl rfl (a.says (d := 311) rfl rfl (j 6 rfl)) (gv (by simp [go_sem, a.e 312 (j 7 rfl)]) rfl),
  fun f s W g j l m n a => opk (c := true) rfl rfl (fun h => absurd h (by decide)) (fun _ => by simp [go_sem, a.e 311 (j 6 rfl), a.e 313 (j 8 rfl)]),
  fun f s W g j l m n a => opv rfl rfl (by simp [go_sem, a.e 314 (j 9 rfl)]) rfl,
  fun f s W g j l m n a => osure rfl rfl (a.says (d := 315) rfl rfl (j 10 rfl)) (gv (by simp [go_sem, a.e 25 k48_25]) rfl),
  fun f s W g j l m n a => opk (c := true) rfl rfl (fun h => absurd h (by decide)) (fun _ => by simp [go_sem, a.e 315 (j 10 rfl), a.e 316 (j 11 rfl)]),
  fun f s W g j l m n a => opv rfl rfl (by simp [go_sem, a.e 317 (j 12 rfl)]) rfl,
  fun f s W g j l m n a => osure rfl rfl (a.says (d := 318) rfl rfl (j 13 rfl)) (gv (by simp [go_sem, a.e 26 k48_26]) rfl),
  fun f s W g j l m n a => opk (c := true) rfl rfl (fun h => absurd h (by decide)) (fun _ => by simp [go_sem, a.e 318 (j 13 rfl), a.e 319 (j 14 rfl)]),
  fun f s W g j l m n a => opv rfl rfl (by simp [go_sem, a.e 320 (j 15 rfl)]) rfl,
  fun f s W g j l m n a => osure rfl rfl (a.says (d := 321) rfl rfl (j 16 rfl)) (gv (by simp [go_sem, a.e 28 k48_28]) rfl),
  fun f s W g j l m n a => opk (c := true) rfl rfl (fun h => absurd h (by decide)) (fun _ => by simp [go_sem, a.e 321 (j 16 rfl), a.e 322 (j 17 rfl)]),
  fun f s W g j l m n a => opv rfl rfl (by simp [go_sem, a.e 323 (j 18 rfl)]) rfl,
  fun f s W g j l m n a => osure rfl rfl (a.says (d := 324) rfl rfl (j 19 rfl)) (gv (by simp [go_sem, a.e 29 k48_29]) rfl),
  fun f s W g j l m n a => opk (c := true) rfl rfl (fun h => absurd h (by decide)) (fun _ => by simp [go_sem, a.e 324 (j 19 rfl), a.e 325 (j 20 rfl)]),
  fun f s W g j l m n a => opv rfl rfl (by simp [go_sem, a.e 326 (j 21 rfl)]) rfl,
  fun f s W g j l m n a => osure rfl rfl (a.says (d := 327) rfl rfl (j 22 rfl)) (gv (by simp [go_sem, a.e 32 k48_32]) rfl),
  fun f s W g j l m n a => osure rfl rfl (a.says (d := 327) rfl rfl (j 22 rfl)) (gv (by simp [go_sem, a.e 328 (j 23 rfl)]) rfl),
  fun f s W g j l m n a => opk (c := true) rfl rfl (fun h => absurd h (by decide)) (fun _ => by simp [go_sem, a.e 327 (j 22 rfl), a.e 329 (j 24 rfl)]),
  fun f s W g j l m n a => opv rfl rfl (by simp [go_sem, a.e 330 (j 25 rfl)]) rfl,
  fun f s W g j l m n a => osure rfl rfl (a.says (d := 331) rfl rfl (j 26 rfl)) (gc (by simp [go_sem]) (known_any W)),
  fun f s W g j l m n a => opk (c := true) rfl rfl (fun h => absurd h (by decide)) (fun _ => by simp [go_sem, a.e 331 (j 26 rfl), a.e 332 (j 27 rfl)]),
  fun f s W g j l m n a => opv rfl rfl (by simp [go_sem, a.e 333 (j 28 rfl)]) rfl, trivial⟩ ?_
 intro f49 s49 W49 hB49 g49 hg49
 have fB49 := hB49.f fB48
 have z49 := hB49.below.size
 have fA49 := hB49.f fA48
 have b49_11 := hB49.b b48_11
 refine hK50 _ _ ?_
 have k49_6 := kt hg49 6 (hB49.is 29)
 refine wp_ret ?_
 refine leave_one (N := 334) (v := .bool true) (.inr rfl) Try.results6 rfl k49_6 ?_
 exact ⟨rfl, fB49⟩
end Go.Proofs.Ythnediamopehfaa
