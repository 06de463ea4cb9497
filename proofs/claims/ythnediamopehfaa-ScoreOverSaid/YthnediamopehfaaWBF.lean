/- Part of the proof: what the claim leans on. -/
import Derived.Test.YthnediamopehfaaWBE
set_option linter.unusedSimpArgs false
set_option linter.unusedVariables false
namespace Go.Proofs.Ythnediamopehfaa
open Go.RowKit
set_option maxRecDepth 100000 in
set_option maxHeartbeats 40000000 in
theorem over_main_c18 (x y : Sh) (gx : ShIn x) (gy : ShIn y) (v0 v1 v2 v3 : Int) (gv0 : 0 ≤ v0 ∧ v0 ≤ 255) (gv1 : 0 ≤ v1 ∧ v1 ≤ 255) (gv2 : 0 ≤ v2 ∧ v2 ≤ 255) (gv3 : 0 ≤ v3 ∧ v3 ≤ 255) (b d lg : Bl) (p0 p1 p2 p3 hh t0 t1 u0 u1 : Int) (op : Bool) (alo ahi clo chi le mo th0 th1 th2 : Int) (L M N : List Sp) (w : World) (hbx : shBl x = b) (hby : shBl y = d) (hcx : shCal x = (alo, ahi)) (hcy : shCal y = (clo, chi)) (hbl : b = ⟨30, [p0, p1, p2, p3], hh, [t0, t1], [u0, u1], 9, op⟩) (hlg : lg = ⟨30, [p0 + mo, p1 + mo, p2 + mo, p3 + mo], hh, [t0, t1], [u0, u1], 9, op⟩) (hle : v0 % 100 = le) (hmo : v1 % 40 = mo) (hckb : checkErr b = 0) (hckd : checkErr d = 0) (hcklg : checkErr lg = 0) (gp0 : 1 ≤ p0 ∧ p0 ≤ 400) (gp1 : 1 ≤ p1 ∧ p1 ≤ 400) (gp2 : 1 ≤ p2 ∧ p2 ≤ 400) (gp3 : 1 ≤ p3 ∧ p3 ≤ 400) (j1 : 200 ≤ alo) (j2 : alo ≤ ahi) (j3 : ahi ≤ 10000) (jc1 : 200 ≤ clo) (jc2 : clo ≤ chi) (jc3 : chi ≤ 10000) (hL : playL b d (alo, ahi) (clo, chi) = L) (hM : playL lg d (alo - le, ahi - le) (clo, chi) = M) (hN : playL b d (alo, ahi) (clo - le, chi - le) = N) (hL4 : L.length = 4) (hM4 : M.length = 4) (hN4 : N.length = 4) (hLle : ∀ i, i < 4 → ¬ (nthP L i).2 < (nthP L i).1) (hLb : ∀ i, i < 4 → (-1000000000 ≤ (nthP L i).1 ∧ (nthP L i).1 ≤ 1000000000) ∧ (-1000000000 ≤ (nthP L i).2 ∧ (nthP L i).2 ≤ 1000000000)) (hMi : ∀ i, i < 4 → nthP M i = (((nthP L i).1 + le) + (1000 * mo), ((nthP L i).2 + le) + (1000 * mo))) (hNi : ∀ i, i < 4 → nthP N i = ((nthP L i).1 + le, (nthP L i).2 + le)) (n1b : b.panels.length ≤ 1000) (n2b : b.top.length ≤ 1000) (n3b : b.bottom.length ≤ 1000) (n1d : d.panels.length ≤ 1000) (n2d : d.top.length ≤ 1000) (n3d : d.bottom.length ≤ 1000) (hmb : ∀ k, k < 5 → 0 ≤ mic b ahi k ∧ mic b ahi k ≤ 3000000) (hth0 : dn (min (mic b ahi 0) (mic b ahi 2)) = th0) (hth1 : dn (min (mic b ahi 1) (mic b ahi 3)) = th1) (hth2 : dn (mic b ahi 4) = th2) (gth0 : 0 ≤ th0 ∧ th0 ≤ 2000) (gth1 : 0 ≤ th1 ∧ th1 ≤ 2000) (gth2 : 0 ≤ th2 ∧ th2 ≤ 2000) (hs1 : insideB b ahi th0 th1 th2 = true) (hs2 : insideB b alo th0 th1 th2 = true) (hs3 : insideB b ahi th2 (max 0 (th0 - v2)) (max 0 (th1 - v3)) = true) (hs4 : insideB b (alo - le) th2 (max 0 (th0 - v2)) (max 0 (th1 - v3)) = true) (hs5 : insideB b ahi (th0 + 1) (th1 + 1) (th2 + 1) = false) (gz_ : Nat → Value) (Wz_ : World) (bk0 : Nat) (bk1 : Nat) (bk3 : Nat) (a82' : Option Addr) (c83' : Nat) (a209' : Option Addr) (c210' : Nat) (a247' : Option Addr) (c248' : Nat) (g1' : Nat) (c4' : Nat) (g2' : Nat) (c5' : Nat) (g3' : Nat) (c6' : Nat) (g10' : Nat) (c13' : Nat) (g11' : Nat) (c14' : Nat) (g12' : Nat) (c15' : Nat) (g94' : Nat) (c97' : Nat) (g95' : Nat) (c98' : Nat) (g93' : Nat) (c96' : Nat) (bk6 : Nat) (bk7 : Nat) (bk2 : Nat) (bk4 : Nat) (bk5 : Nat)  (k_5 : gz_ 5 = .pointer (some ⟨bk0, 0, none⟩)) (k_6 : gz_ 6 = .bool false) (k_7 : gz_ 7 = .pointer (some ⟨bk1, 0, none⟩)) (k_9 : gz_ 9 = .pointer (some ⟨bk3, 0, none⟩)) (k_13 : gz_ 13 = .int .i64 le) (fB_ : Below w.heap.size w Wz_) (bl_0 : Wz_.heap[bk6]? = some (.cells #[.int .u8 x.x0, .int .u8 x.x1, .int .u8 x.x2, .int .u8 x.x3, .int .u8 x.xh, .int .u8 x.y0, .int .u8 x.y1, .int .u8 x.y2, .int .u8 x.y3, .bool x.xo, .int .u8 x.ca, .int .u8 x.cb, .int .u8 x.v0, .int .u8 x.v1, .int .u8 x.v2, .int .u8 x.v3, .int .u8 x.v4] 56 (0, 0))) (bl_1 : Wz_.heap[bk7]? = some (.cells #[.int .u8 y.x0, .int .u8 y.x1, .int .u8 y.x2, .int .u8 y.x3, .int .u8 y.xh, .int .u8 y.y0, .int .u8 y.y1, .int .u8 y.y2, .int .u8 y.y3, .bool y.xo, .int .u8 y.ca, .int .u8 y.cb, .int .u8 y.v0, .int .u8 y.v1, .int .u8 y.v2, .int .u8 y.v3, .int .u8 y.v4] 56 (0, 0))) (bl_2 : Wz_.heap[bk0]? = some (.cells #[.int .u8 v0, .int .u8 v1, .int .u8 v2, .int .u8 v3] 52 (0, 0))) (bl_3 : Wz_.heap[bk1]? = some (.cells #[.int .i64 b.tab, .slice (some ⟨g1', 0, none⟩) (b.panels.length) (c4'), .int .i64 b.height, .slice (some ⟨g2', 0, none⟩) (b.top.length) (c5'), .slice (some ⟨g3', 0, none⟩) (b.bottom.length) (c6'), .int .i64 b.slot, .bool b.isOpen] 24 (0, 0))) (bl_4 : Wz_.heap[bk2]? = some (.cells #[.int .i64 d.tab, .slice (some ⟨g10', 0, none⟩) (d.panels.length) (c13'), .int .i64 d.height, .slice (some ⟨g11', 0, none⟩) (d.top.length) (c14'), .slice (some ⟨g12', 0, none⟩) (d.bottom.length) (c15'), .int .i64 d.slot, .bool d.isOpen] 24 (0, 0))) (bl_5 : Wz_.heap[bk3]? = some (.cells #[.int .i64 alo, .int .i64 ahi] 37 (0, 0))) (bl_6 : Wz_.heap[bk4]? = some (.cells #[.int .i64 clo, .int .i64 chi] 37 (0, 0))) (bl_7 : Wz_.heap[bk5]? = some (.cells #[.int .i64 30, .slice (some ⟨g93', 0, none⟩) (4) (c96'), .int .i64 hh, .slice (some ⟨g94', 0, none⟩) (2) (c97'), .slice (some ⟨g95', 0, none⟩) (2) (c98'), .int .i64 9, .bool op] 24 (0, 0))) (ft_0 : OwnI 0 b.panels g1' c4' Wz_) (ft_1 : OwnI 0 b.top g2' c5' Wz_) (ft_2 : OwnI 0 b.bottom g3' c6' Wz_) (ft_3 : OwnI 0 d.panels g10' c13' Wz_) (ft_4 : OwnI 0 d.top g11' c14' Wz_) (ft_5 : OwnI 0 d.bottom g12' c15' Wz_) (ft_6 : Pp Wz_ a82' L.length c83' L) (ft_7 : OwnI w.heap.size ([t0, t1]) g94' c97' Wz_) (ft_8 : OwnI w.heap.size ([u0, u1]) g95' c98' Wz_) (ft_9 : OwnI w.heap.size ([p0 + mo, p1 + mo, p2 + mo, p3 + mo]) g93' c96' Wz_) (ft_10 : Pp Wz_ a209' M.length c210' M) (ft_11 : Pp Wz_ a247' N.length c248' N) (lw_bk6 : w.heap.size ≤ bk6) (lw_bk7 : w.heap.size ≤ bk7) (lw_bk0 : w.heap.size ≤ bk0) (lw_bk1 : w.heap.size ≤ bk1) (lw_bk2 : w.heap.size ≤ bk2) (lw_bk3 : w.heap.size ≤ bk3) (lw_bk4 : w.heap.size ≤ bk4) (lw_bk5 : w.heap.size ≤ bk5) (ne_0_1 : bk6 ≠ bk7) (ne_0_2 : bk6 ≠ bk0) (ne_1_2 : bk7 ≠ bk0) (ne_0_3 : bk6 ≠ bk1) (ne_1_3 : bk7 ≠ bk1) (ne_2_3 : bk0 ≠ bk1) (ne_0_4 : bk6 ≠ bk2) (ne_1_4 : bk7 ≠ bk2) (ne_2_4 : bk0 ≠ bk2) (ne_3_4 : bk1 ≠ bk2) (ne_0_5 : bk6 ≠ bk3) (ne_1_5 : bk7 ≠ bk3) (ne_2_5 : bk0 ≠ bk3) (ne_3_5 : bk1 ≠ bk3) (ne_4_5 : bk2 ≠ bk3) (ne_0_6 : bk6 ≠ bk4) (ne_1_6 : bk7 ≠ bk4) (ne_2_6 : bk0 ≠ bk4) (ne_3_6 : bk1 ≠ bk4) (ne_4_6 : bk2 ≠ bk4) (ne_5_6 : bk3 ≠ bk4) (ne_0_7 : bk6 ≠ bk5) (ne_1_7 : bk7 ≠ bk5) (ne_2_7 : bk0 ≠ bk5) (ne_3_7 : bk1 ≠ bk5) (ne_4_7 : bk2 ≠ bk5) (ne_5_7 : bk3 ≠ bk5) (ne_6_7 : bk4 ≠ bk5) (ne_0_8 : bk6 ≠ g94') (ne_1_8 : bk7 ≠ g94') (ne_2_8 : bk0 ≠ g94') (ne_3_8 : bk1 ≠ g94') (ne_4_8 : bk2 ≠ g94') (ne_5_8 : bk3 ≠ g94') (ne_6_8 : bk4 ≠ g94') (ne_7_8 : bk5 ≠ g94') (ne_0_9 : bk6 ≠ g95') (ne_1_9 : bk7 ≠ g95') (ne_2_9 : bk0 ≠ g95') (ne_3_9 : bk1 ≠ g95') (ne_4_9 : bk2 ≠ g95') (ne_5_9 : bk3 ≠ g95') (ne_6_9 : bk4 ≠ g95') (ne_7_9 : bk5 ≠ g95') (ne_8_9 : g94' ≠ g95') (ne_0_10 : bk6 ≠ g93') (ne_1_10 : bk7 ≠ g93') (ne_2_10 : bk0 ≠ g93') (ne_3_10 : bk1 ≠ g93') (ne_4_10 : bk2 ≠ g93') (ne_5_10 : bk3 ≠ g93') (ne_6_10 : bk4 ≠ g93') (ne_7_10 : bk5 ≠ g93') (ne_8_10 : g94' ≠ g93') (ne_9_10 : g95' ≠ g93') :
  (tailC 10 (bodyC Try.f6)).wp Try.prog (bodyPost Try.prog Try.f6 (fun e w' => e = .returned (.bool true) ∧ Below w.heap.size w w')) (fr 334 gz_) Wz_ := by
 have hL4z : ((L.length : Int) != 4) = false := by rw [hL4]; rfl
 have hM4z : ((M.length : Int) != 4) = false := by rw [hM4]; rfl
 have hN4z : ((N.length : Int) != 4) = false := by rw [hN4]; rfl
 have hg0 := Int.not_lt.2 gth0.1
 have hg1 := Int.not_lt.2 gth1.1
 have hg2 := Int.not_lt.2 gth2.1
 have hmb0 := hmb 0 (by decide)
 have hmb1 := hmb 1 (by decide)
 have hmb2 := hmb 2 (by decide)
 have hmb3 := hmb 3 (by decide)
 have hmb4 := hmb 4 (by decide)
 have gle : 0 ≤ le ∧ le < 100 := by omega
 have gmo : 0 ≤ mo ∧ mo < 40 := by omega
 have lt_bk6 := lt_of_blk bl_0
 have lt_bk7 := lt_of_blk bl_1
 have lt_bk0 := lt_of_blk bl_2
 have lt_bk1 := lt_of_blk bl_3
 have lt_bk2 := lt_of_blk bl_4
 have lt_bk3 := lt_of_blk bl_5
 have lt_bk4 := lt_of_blk bl_6
 have lt_bk5 := lt_of_blk bl_7
 have lim282' := Pp.lim ft_6
 have lo_ft_7 := ft_7.lim
 have lo_ft_8 := ft_8.lim
 have lo_ft_9 := ft_9.lim
 have lim283' := Pp.lim ft_10
 have lim284' := Pp.lim ft_11
 have fA38 : Below Wz_.heap.size Wz_ Wz_ := Below.refl _ _
 refine wp_seq_k fun K40 hK40 => ?_
 as_aux_lemma =>
 refine region_dk 5 [(201, 0), (202, 1), (203, 2), (204, 3), (22, 4)] [[], [], [1], [0, 1, 2], [], [0, 1, 2, 3, 4]] (rel [is (.agg #[.int .i64 b.tab, .slice (some ⟨g1', 0, none⟩) (b.panels.length) (c4'), .int .i64 b.height, .slice (some ⟨g2', 0, none⟩) (b.top.length) (c5'), .slice (some ⟨g3', 0, none⟩) (b.bottom.length) (c6'), .int .i64 b.slot, .bool b.isOpen]),
   is (.pointer (some ⟨bk3, 1, none⟩)),
   is (.int .i64 ahi),
   is (.agg #[.int .i64 (mic b ahi 0), .int .i64 (mic b ahi 1), .int .i64 (mic b ahi 2), .int .i64 (mic b ahi 3), .int .i64 (mic b ahi 4), .int .i64 (mic b ahi 5), .int .i64 (mic b ahi 6), .int .i64 (mic b ahi 7), .int .i64 (mic b ahi 8)]),
   bx 4 #[.int .i64 0, .int .i64 0, .int .i64 0, .int .i64 0, .int .i64 0, .int .i64 0, .int .i64 0, .int .i64 0, .int .i64 0] 59])
  ⟨is_k, is_k, is_k, is_k, bx_k, trivial⟩
  ⟨fun f s W g j l m n a => by have aW := below_trans fA38 g; exact opl rfl rfl rfl (a.v 7 k_7) (blk_below bl_3 aW) Try.underlying24 rfl (by kernel_rfl) rfl,
  fun f s W g j l m n a => opv rfl rfl (by simp [go_sem, a.e 9 k_9]) rfl,
  fun f s W g j l m n a => by have aW := below_trans fA38 g; exact opv rfl rfl (by simp [go_sem, a.e 202 (j 1 rfl), cb bl_5 aW 1]) rfl,
  fun f s W g j l m n a => by have aW := below_trans fA38 g; exact opc (args := #[.agg #[.int .i64 b.tab, .slice (some ⟨g1', 0, none⟩) (b.panels.length) (c4'), .int .i64 b.height, .slice (some ⟨g2', 0, none⟩) (b.top.length) (c5'), .slice (some ⟨g3', 0, none⟩) (b.bottom.length) (c6'), .int .i64 b.slot, .bool b.isOpen], .int .i64 ahi]) rfl rfl (by simp [go_sem, a.e 201 (j 0 rfl), a.e 203 (j 2 rfl)]) (micros_blk _ _ _ _ _ _ b ahi W ((ft_0.below aW)).ii ((ft_1.below aW)).ii ((ft_2.below aW)).ii hckb (by omega)),
  fun f s W g j l m n a => opb rfl rfl (by simp [go_sem]), trivial⟩ ?_
 intro f39 s39 W39 hB39 g39 hg39
 have fB39 := hB39.f fB_
 have z39 := hB39.below.size
 have fA39 := hB39.f fA38
 obtain ⟨r39_4, br39_4⟩ := hB39.is 4
 have lr39_4 := hB39.lr 4 br39_4
 have k39_5 := kt hg39 5 k_5
 have k39_6 := kt hg39 6 k_6
 have k39_7 := kt hg39 7 k_7
 have k39_9 := kt hg39 9 k_9
 have k39_13 := kt hg39 13 k_13
 have k39_204 := kt hg39 204 (hB39.is 3)
 have k39_22 := kt hg39 22 r39_4
 obtain ⟨W40, hW40⟩ : ∃ W', W' = W39.setRow (s39 4) #[.int .i64 (mic b ahi 0), .int .i64 (mic b ahi 1), .int .i64 (mic b ahi 2), .int .i64 (mic b ahi 3), .int .i64 (mic b ahi 4), .int .i64 (mic b ahi 5), .int .i64 (mic b ahi 6), .int .i64 (mic b ahi 7), .int .i64 (mic b ahi 8)] := ⟨_, rfl⟩
 refine tail_skip (o := _) rfl ⟨rfl, rfl⟩ (run_seg hW40 (fr_ev k39_22) (fr_ev k39_204) br39_4 rfl rfl rfl rfl) ?_
 obtain ⟨fB40, nb40, ot40, z40⟩ := seg_facts hW40 fB39 br39_4 (by omega)
 have fA40 := (seg_facts hW40 fA39 br39_4 (by omega)).1
 clear hW40
 refine wpOps_end ?_
 refine hK40 _ _ ?_
 refine wp_seq_k fun K41 hK41 => ?_
 as_aux_lemma =>
 refine region_dk 17 [(205, 0), (206, 1), (207, 2), (208, 3), (209, 4), (210, 5), (211, 6), (212, 7), (213, 8), (214, 9), (215, 10), (216, 11), (217, 12), (218, 13), (219, 14), (220, 15), (23, 16)] [[], [0], [], [2], [0, 1, 2, 3], [0, 1, 2, 3, 4], [], [6], [], [8], [6, 7, 8, 9], [0, 1, 2, 3, 4, 5, 6, 7, 8, 9, 10], [], [12], [0, 1, 2, 3, 4, 5, 6, 7, 8, 9, 10, 11, 12, 13], [0, 1, 2, 3, 4, 5, 6, 7, 8, 9, 10, 11, 12, 13, 14], [0, 1, 2, 3, 4, 5, 6, 7, 8, 9, 10, 11, 12, 13, 14, 15]] (rel [is (.pointer (some ⟨(s39 4), 0, none⟩)),
   is (.int .i64 (mic b ahi 0)),
   is (.pointer (some ⟨(s39 4), 2, none⟩)),
   is (.int .i64 (mic b ahi 2)),
   is (.int .i64 (min (mic b ahi 0) (mic b ahi 2))),
   is (.int .i64 th0),
   is (.pointer (some ⟨(s39 4), 1, none⟩)),
   is (.int .i64 (mic b ahi 1)),
   is (.pointer (some ⟨(s39 4), 3, none⟩)),
   is (.int .i64 (mic b ahi 3)),
   is (.int .i64 (min (mic b ahi 1) (mic b ahi 3))),
   is (.int .i64 th1),
   is (.pointer (some ⟨(s39 4), 4, none⟩)),
   is (.int .i64 (mic b ahi 4)),
   is (.int .i64 th2),
   row 15 3 #[.int .i64 th0, .int .i64 th1, .int .i64 th2] 3,
   isS fun s => .slice (some ⟨(s 15), 0, none⟩) (3) (3)])
  ⟨is_k, is_k, is_k, is_k, is_k, is_k, is_k, is_k, is_k, is_k, is_k, is_k, is_k, is_k, is_k, row_k, isS_k fun s s' e => by rw [e 15 (by simp)], trivial⟩
  ⟨fun f s W g j l m n a => opv rfl rfl (by simp [go_sem, a.e 22 k39_22]) rfl,
  fun f s W g j l m n a => opv rfl rfl (by simp [go_sem, a.e 205 (j 0 rfl), cb nb40 g 0]) rfl,
  fun f s W g j l m n a => opv rfl rfl (by simp [go_sem, a.e 22 k39_22]) rfl,
  fun f s W g j l m n a => opv rfl rfl (by simp [go_sem, a.e 207 (j 2 rfl), cb nb40 g 2]) rfl,
  fun f s W g j l m n a => opv rfl rfl (by simp [go_sem, a.e 206 (j 1 rfl), a.e 208 (j 3 rfl)]) rfl,
  fun f s W g j l m n a => opDo_call rfl rfl (by simp [go_sem, a.e 209 (j 4 rfl)]) (dn_any (min (mic b ahi 0) (mic b ahi 2)) W (by omega) (by omega)) ((fun e W' h => by have h1 := h.1; rw [hth0] at h1; exact ⟨_, h1, h.2, rfl⟩)),
  fun f s W g j l m n a => opv rfl rfl (by simp [go_sem, a.e 22 k39_22]) rfl,
  fun f s W g j l m n a => opv rfl rfl (by simp [go_sem, a.e 211 (j 6 rfl), cb nb40 g 1]) rfl,
  fun f s W g j l m n a => opv rfl rfl (by simp [go_sem, a.e 22 k39_22]) rfl,
  fun f s W g j l m n a => opv rfl rfl (by simp [go_sem, a.e 213 (j 8 rfl), cb nb40 g 3]) rfl,
  fun f s W g j l m n a => opv rfl rfl (by simp [go_sem, a.e 212 (j 7 rfl), a.e 214 (j 9 rfl)]) rfl,
  fun f s W g j l m n a => opDo_call rfl rfl (by simp [go_sem, a.e 215 (j 10 rfl)]) (dn_any (min (mic b ahi 1) (mic b ahi 3)) W (by omega) (by omega)) ((fun e W' h => by have h1 := h.1; rw [hth1] at h1; exact ⟨_, h1, h.2, rfl⟩)),
  fun f s W g j l m n a => opv rfl rfl (by simp [go_sem, a.e 22 k39_22]) rfl,
  fun f s W g j l m n a => opv rfl rfl (by simp [go_sem, a.e 217 (j 12 rfl), cb nb40 g 4]) rfl,
  fun f s W g j l m n a => opDo_call rfl rfl (by simp [go_sem, a.e 218 (j 13 rfl)]) (dn_any (mic b ahi 4) W (by omega) (by omega)) ((fun e W' h => by have h1 := h.1; rw [hth2] at h1; exact ⟨_, h1, h.2, rfl⟩)),
  fun f s W g j l m n a => opr rfl rfl (by simp [go_sem, a.e 210 (j 5 rfl), a.e 216 (j 11 rfl), a.e 219 (j 14 rfl)]),
  fun f s W g j l m n a => opv rfl rfl (by simp [go_sem, a.e 220 (j 15 rfl).1, upd]) rfl, trivial⟩ ?_
 intro f41 s41 W41 hB41 g41 hg41
 have fB41 := hB41.f fB40
 have z41 := hB41.below.size
 have fA41 := hB41.f fA40
 have b41_8 := hB41.b nb40
 obtain ⟨r41_15, br41_15⟩ := hB41.is 15
 have lr41_15 := hB41.lr 15 br41_15
 refine hK41 _ _ ?_
 have k41_5 := kt hg41 5 k39_5
 have k41_6 := kt hg41 6 k39_6
 have k41_7 := kt hg41 7 k39_7
 have k41_9 := kt hg41 9 k39_9
 have k41_13 := kt hg41 13 k39_13
 have k41_23 := kt hg41 23 (hB41.is 16)
 refine wp_seq_k fun K42 hK42 => ?_
 refine wp_seq_k fun K43 hK43 => ?_
 as_aux_lemma =>
 refine region_dk 16 [(221, 0), (222, 1), (223, 2), (224, 3), (225, 4), (226, 5), (227, 6), (228, 7), (229, 8), (230, 9), (231, 10), (232, 11), (233, 12), (234, 13), (235, 14), (236, 15)] [[], [0], [0, 1], [0, 1, 2], [0, 1, 2, 3], [0, 1, 2, 3, 4], [0, 1, 2, 3, 4, 5], [0, 1, 2, 3, 4, 5, 6], [0, 1, 2, 3, 4, 5, 6, 7], [0, 1, 2, 3, 4, 5, 6, 7, 8], [0, 1, 2, 3, 4, 5, 6, 7, 8, 9], [0, 1, 2, 3, 4, 5, 6, 7, 8, 9, 10], [0, 1, 2, 3, 4, 5, 6, 7, 8, 9, 10, 11], [0, 1, 2, 3, 4, 5, 6, 7, 8, 9, 10, 11, 12], [0, 1, 2, 3, 4, 5, 6, 7, 8, 9, 10, 11, 12, 13], [0, 1, 2, 3, 4, 5, 6, 7, 8, 9, 10, 11, 12, 13, 14]] (rel [is (.slice (some ⟨(s41 15), 0, none⟩) (3) (3)),
   is (.pointer (some ⟨(s41 15), 0, none⟩)),
   is (.int .i64 th0),
   is (.bool false),
   is (.bool false),
   is (.slice (some ⟨(s41 15), 0, none⟩) (3) (3)),
   is (.pointer (some ⟨(s41 15), 1, none⟩)),
   is (.int .i64 th1),
   is (.bool false),
   is (.bool false),
   is (.bool false),
   is (.slice (some ⟨(s41 15), 0, none⟩) (3) (3)),
   is (.pointer (some ⟨(s41 15), 2, none⟩)),
   is (.int .i64 th2),
   is (.bool false),
   is (.bool false)])
  ⟨is_k, is_k, is_k, is_k, is_k, is_k, is_k, is_k, is_k, is_k, is_k, is_k, is_k, is_k, is_k, is_k, trivial⟩
  ⟨fun f s W g j l m n a => opv rfl rfl (by simp [go_sem, a.e 23 k41_23]) rfl,
  fun f s W g j l m n a => opv rfl rfl (by simp [go_sem, a.e 221 (j 0 rfl)]) rfl,
  fun f s W g j l m n a => opv rfl rfl (by simp [go_sem, a.e 222 (j 1 rfl), cb br41_15 g 0]) rfl,
  fun f s W g j l m n a => opv rfl rfl (by simp [go_sem, a.e 223 (j 2 rfl), hg0]) rfl,
  fun f s W g j l m n a => opv rfl rfl (by simp [go_sem, a.e 224 (j 3 rfl)]) rfl,
  fun f s W g j l m n a => osure rfl rfl (a.says (d := 225) rfl rfl (j 4 rfl)) (gv (by simp [go_sem, a.e 23 k41_23]) rfl),
  fun f s W g j l m n a => osure rfl rfl (a.says (d := 225) rfl rfl (j 4 rfl)) (gv (by simp [go_sem, a.e 226 (j 5 rfl)]) rfl),
  fun f s W g j l m n a => osure rfl rfl (a.says (d := 225) rfl rfl (j 4 rfl)) (gv (by simp [go_sem, a.e 227 (j 6 rfl), cb br41_15 g 1]) rfl),
  fun f s W g j l m n a => osure rfl rfl (a.says (d := 225) rfl rfl (j 4 rfl)) (gv (by simp [go_sem, a.e 228 (j 7 rfl), hg1]) rfl),
  fun f s W g j l m n a => opk (c := false) rfl rfl (fun _ => by simp [go_sem, a.e 225 (j 4 rfl), a.e 229 (j 8 rfl)]) (fun h => absurd h (by decide)),
  fun f s W g j l m n a => opv rfl rfl (by simp [go_sem, a.e 230 (j 9 rfl)]) rfl,
  fun f s W g j l m n a => osure rfl rfl (a.says (d := 231) rfl rfl (j 10 rfl)) (gv (by simp [go_sem, a.e 23 k41_23]) rfl),
  fun f s W g j l m n a => osure rfl rfl (a.says (d := 231) rfl rfl (j 10 rfl)) (gv (by simp [go_sem, a.e 232 (j 11 rfl)]) rfl),
  fun f s W g j l m n a => osure rfl rfl (a.says (d := 231) rfl rfl (j 10 rfl)) (gv (by simp [go_sem, a.e 233 (j 12 rfl), cb br41_15 g 2]) rfl),
  fun f s W g j l m n a => osure rfl rfl (a.says (d := 231) rfl rfl (j 10 rfl)) (gv (by simp [go_sem, a.e 234 (j 13 rfl), hg2]) rfl),
  fun f s W g j l m n a => opk (c := false) rfl rfl (fun _ => by simp [go_sem, a.e 231 (j 10 rfl), a.e 235 (j 14 rfl)]) (fun h => absurd h (by decide)), trivial⟩ ?_
 intro f42 s42 W42 hB42 g42 hg42
 have fB42 := hB42.f fB41
 have z42 := hB42.below.size
 have fA42 := hB42.f fA41
 have b42_8 := hB42.b b41_8
 have b42_9 := hB42.b br41_15
 refine hK43 _ _ ?_
 have k42_5 := kt hg42 5 k41_5
 have k42_6 := kt hg42 6 k41_6
 have k42_7 := kt hg42 7 k41_7
 have k42_9 := kt hg42 9 k41_9
 have k42_13 := kt hg42 13 k41_13
 have k42_23 := kt hg42 23 k41_23
 have k42_236 := kt hg42 236 (hB42.is 15)
 refine wp_cond_false ((fr_eval rfl).trans k42_236) ?_
 refine wp_skip ?_
 refine hK42 _ _ ?_
 refine wp_seq_k fun K45 hK45 => ?_
 as_aux_lemma =>
 refine region_dk 21 [(238, 0), (239, 1), (240, 2), (241, 3), (242, 4), (243, 5), (244, 6), (245, 7), (246, 8), (247, 9), (248, 10), (249, 11), (250, 12), (251, 13), (252, 14), (253, 15), (254, 16), (255, 17), (256, 18), (257, 19), (24, 20)] [[], [0], [0, 1], [], [3], [3, 4], [], [6], [6, 7], [3, 4, 5, 6, 7, 8], [3, 4, 5, 6, 7, 8, 9], [], [11], [11, 12], [], [14], [14, 15], [11, 12, 13, 14, 15, 16], [11, 12, 13, 14, 15, 16, 17], [0, 1, 2, 3, 4, 5, 6, 7, 8, 9, 10, 11, 12, 13, 14, 15, 16, 17, 18], [0, 1, 2, 3, 4, 5, 6, 7, 8, 9, 10, 11, 12, 13, 14, 15, 16, 17, 18, 19]] (rel [is (.slice (some ⟨(s41 15), 0, none⟩) (3) (3)),
   is (.pointer (some ⟨(s41 15), 2, none⟩)),
   is (.int .i64 th2),
   is (.slice (some ⟨(s41 15), 0, none⟩) (3) (3)),
   is (.pointer (some ⟨(s41 15), 0, none⟩)),
   is (.int .i64 th0),
   is (.pointer (some ⟨bk0, 2, none⟩)),
   is (.int .u8 v2),
   is (.int .i64 v2),
   is (.int .i64 (th0 - v2)),
   is (.int .i64 (max 0 (th0 - v2))),
   is (.slice (some ⟨(s41 15), 0, none⟩) (3) (3)),
   is (.pointer (some ⟨(s41 15), 1, none⟩)),
   is (.int .i64 th1),
   is (.pointer (some ⟨bk0, 3, none⟩)),
   is (.int .u8 v3),
   is (.int .i64 v3),
   is (.int .i64 (th1 - v3)),
   is (.int .i64 (max 0 (th1 - v3))),
   row 19 3 #[.int .i64 th2, .int .i64 (max 0 (th0 - v2)), .int .i64 (max 0 (th1 - v3))] 3,
   isS fun s => .slice (some ⟨(s 19), 0, none⟩) (3) (3)])
  ⟨is_k, is_k, is_k, is_k, is_k, is_k, is_k, is_k, is_k, is_k, is_k, is_k, is_k, is_k, is_k, is_k, is_k, is_k, is_k, row_k, isS_k fun s s' e => by rw [e 19 (by simp)], trivial⟩
  ⟨fun f s W g j l m n a => opv rfl rfl (by simp [go_sem, a.e 23 k42_23]) rfl,
  fun f s W g j l m n a => opv rfl rfl (by simp [go_sem, a.e 238 (j 0 rfl)]) rfl,
  fun f s W g j l m n a => opv rfl rfl (by simp [go_sem, a.e 239 (j 1 rfl), cb b42_9 g 2]) rfl,
  fun f s W g j l m n a => opv rfl rfl (by simp [go_sem, a.e 23 k42_23]) rfl,
  fun f s W g j l m n a => opv rfl rfl (by simp [go_sem, a.e 241 (j 3 rfl)]) rfl,
  fun f s W g j l m n a => opv rfl rfl (by simp [go_sem, a.e 242 (j 4 rfl), cb b42_9 g 0]) rfl,
  fun f s W g j l m n a => opv rfl rfl (by simp [go_sem, a.e 5 k42_5]) rfl,
  fun f s W g j l m n a => by have aW := below_trans fA42 g; exact opv rfl rfl (by simp [go_sem, a.e 244 (j 6 rfl), cb bl_2 aW 2]) rfl,
  fun f s W g j l m n a => by have cv_ := IntWalk.i64_in v2 (by omega); exact opv rfl rfl (by simp [go_sem, a.e 245 (j 7 rfl), cv_]) rfl,
  fun f s W g j l m n a => opv rfl rfl (by simp [go_sem, a.e 243 (j 5 rfl), a.e 246 (j 8 rfl), IntWalk.i64_in (th0 - v2) (by omega)]) rfl,
  fun f s W g j l m n a => opv rfl rfl (by simp [go_sem, a.e 247 (j 9 rfl)]) rfl,
  fun f s W g j l m n a => opv rfl rfl (by simp [go_sem, a.e 23 k42_23]) rfl,
  fun f s W g j l m n a => opv rfl rfl (by simp [go_sem, a.e 249 (j 11 rfl)]) rfl,
  fun f s W g j l m n a => opv rfl rfl (by simp [go_sem, a.e 250 (j 12 rfl), cb b42_9 g 1]) rfl,
  fun f s W g j l m n a => opv rfl rfl (by simp [go_sem, a.e 5 k42_5]) rfl,
  fun f s W g j l m n a => by have aW := below_trans fA42 g; exact opv rfl rfl (by simp [go_sem, a.e 252 (j 14 rfl), cb bl_2 aW 3]) rfl,
  fun f s W g j l m n a => by have cv_ := IntWalk.i64_in v3 (by omega); exact opv rfl rfl (by simp [go_sem, a.e 253 (j 15 rfl), cv_]) rfl,
  fun f s W g j l m n a => opv rfl rfl (by simp [go_sem, a.e 251 (j 13 rfl), a.e 254 (j 16 rfl), IntWalk.i64_in (th1 - v3) (by omega)]) rfl,
  fun f s W g j l m n a => opv rfl rfl (by simp [go_sem, a.e 255 (j 17 rfl)]) rfl,
  fun f s W g j l m n a => opr rfl rfl (by simp [go_sem, a.e 240 (j 2 rfl), a.e 248 (j 10 rfl), a.e 256 (j 18 rfl)]),
  fun f s W g j l m n a => opv rfl rfl (by simp [go_sem, a.e 257 (j 19 rfl).1, upd]) rfl, trivial⟩ ?_
 intro f43 s43 W43 hB43 g43 hg43
 have fB43 := hB43.f fB42
 have z43 := hB43.below.size
 have fA43 := hB43.f fA42
 have b43_8 := hB43.b b42_8
 have b43_9 := hB43.b b42_9
 obtain ⟨r43_19, br43_19⟩ := hB43.is 19
 have lr43_19 := hB43.lr 19 br43_19
 refine hK45 _ _ ?_
 have k43_6 := kt hg43 6 k42_6
 have k43_7 := kt hg43 7 k42_7
 have k43_9 := kt hg43 9 k42_9
 have k43_13 := kt hg43 13 k42_13
 have k43_23 := kt hg43 23 k42_23
 have k43_24 := kt hg43 24 (hB43.is 20)
 have q285' := (ft_0.below fA43)
 have q286' := (ft_1.below fA43)
 have q287' := (ft_2.below fA43)
 have q288' := (ft_3.below fA43)
 have q289' := (ft_4.below fA43)
 have q290' := (ft_5.below fA43)
 have q291' := (ft_6.below fA43 (Nat.le_refl _))
 have q292' := (ft_7.below fA43)
 have q293' := (ft_8.below fA43)
 have q294' := (ft_9.below fA43)
 have q295' := (ft_10.below fA43 (Nat.le_refl _))
 have q296' := (ft_11.below fA43 (Nat.le_refl _))
 have bl297' := blk_below bl_0 fA43
 have bl298' := blk_below bl_1 fA43
 have bl299' := blk_below bl_2 fA43
 have bl300' := blk_below bl_3 fA43
 have bl301' := blk_below bl_4 fA43
 have bl302' := blk_below bl_5 fA43
 have bl303' := blk_below bl_6 fA43
 have bl304' := blk_below bl_7 fA43
 exact over_main_c23 x y gx gy v0 v1 v2 v3 gv0 gv1 gv2 gv3 b d lg p0 p1 p2 p3 hh t0 t1 u0 u1 op alo ahi clo chi le mo th0 th1 th2 L M N w hbx hby hcx hcy hbl hlg hle hmo hckb hckd hcklg gp0 gp1 gp2 gp3 j1 j2 j3 jc1 jc2 jc3 hL hM hN hL4 hM4 hN4 hLle hLb hMi hNi n1b n2b n3b n1d n2d n3d hmb hth0 hth1 hth2 gth0 gth1 gth2 hs1 hs2 hs3 hs4 hs5 g43 W43 bk1 bk3 (s41 15) (s43 19) g1' c4' g2' c5' g3' c6' g10' c13' g11' c14' g12' c15' a82' c83' g94' c97' g95' c98' g93' c96' a209' c210' a247' c248' bk6 bk7 bk0 bk2 bk4 bk5 (s39 4) k43_6 k43_7 k43_9 k43_13 k43_23 k43_24 fB43 bl297' bl298' bl299' bl300' bl301' bl302' bl303' bl304' b43_8 b43_9 br43_19 q285' q286' q287' q288' q289' q290' q291' q292' q293' q294' q295' q296' (by omega) (by omega) (by omega) (by omega) (by omega) (by omega) (by omega) (by omega) (by omega) (by omega) (by omega) (by first | assumption | exact Ne.symm (by assumption) | omega) (by first | assumption | exact Ne.symm (by assumption) | omega) (by first | assumption | exact Ne.symm (by assumption) | omega) (by first | assumption | exact Ne.symm (by assumption) | omega) (by first | assumption | exact Ne.symm (by assumption) | omega) (by first | assumption | exact Ne.symm (by assumption) | omega) (by first | assumption | exact Ne.symm (by assumption) | omega) (by first | assumption | exact Ne.symm (by assumption) | omega) (by first | assumption | exact Ne.symm (by assumption) | omega) (by first | assumption | exact Ne.symm (by assumption) | omega) (by first | assumption | exact Ne.symm (by assumption) | omega) (by first | assumption | exact Ne.symm (by assumption) | omega) (by first | assumption | exact Ne.symm (by assumption) | omega) (by first | assumption | exact Ne.symm (by assumption) | omega) (by first | assumption | exact Ne.symm (by assumption) | omega) (by first | assumption | exact Ne.symm (by assumption) | omega) (by first | assumption | exact Ne.symm (by assumption) | omega) (by first | assumption | exact Ne.symm (by assumption) | omega) (by first | assumption | exact Ne.symm (by assumption) | omega) (by first | assumption | exact Ne.symm (by assumption) | omega) (by first | assumption | exact Ne.symm (by assumption) | omega) (by first | assumption | exact Ne.symm (by assumption) | omega) (by first | assumption | exact Ne.symm (by assumption) | omega) (by first | assumption | exact Ne.symm (by assumption) | omega) (by first | assumption | exact Ne.symm (by assumption) | omega) (by first | assumption | exact Ne.symm (by assumption) | omega) (by first | assumption | exact Ne.symm (by assumption) | omega) (by first | assumption | exact Ne.symm (by assumption) | omega) (by first | assumption | exact Ne.symm (by assumption) | omega) (by first | assumption | exact Ne.symm (by assumption) | omega) (by first | assumption | exact Ne.symm (by assumption) | omega) (by first | assumption | exact Ne.symm (by assumption) | omega) (by first | assumption | exact Ne.symm (by assumption) | omega) (by first | assumption | exact Ne.symm (by assumption) | omega) (by first | assumption | exact Ne.symm (by assumption) | omega) (by first | assumption | exact Ne.symm (by assumption) | omega) (by first | assumption | exact Ne.symm (by assumption) | omega) (by first | assumption | exact Ne.symm (by assumption) | omega) (by first | assumption | exact Ne.symm (by assumption) | omega) (by first | assumption | exact Ne.symm (by assumption) | omega) (by first | assumption | exact Ne.symm (by assumption) | omega) (by first | assumption | exact Ne.symm (by assumption) | omega) (by first | assumption | exact Ne.symm (by assumption) | omega) (by first | assumption | exact Ne.symm (by assumption) | omega) (by first | assumption | exact Ne.symm (by assumption) | omega) (by first | assumption | exact Ne.symm (by assumption) | omega) (by first | assumption | exact Ne.symm (by assumption) | omega) (by first | assumption | exact Ne.symm (by assumption) | omega) (by first | assumption | exact Ne.symm (by assumption) | omega) (by first | assumption | exact Ne.symm (by assumption) | omega) (by first | assumption | exact Ne.symm (by assumption) | omega) (by first | assumption | exact Ne.symm (by assumption) | omega) (by first | assumption | exact Ne.symm (by assumption) | omega) (by first | assumption | exact Ne.symm (by assumption) | omega) (by first | assumption | exact Ne.symm (by assumption) | omega) (by first | assumption | exact Ne.symm (by assumption) | omega) (by first | assumption | exact Ne.symm (by assumption) | omega) (by first | assumption | exact Ne.symm (by assumption) | omega) (by first | assumption | exact Ne.symm (by assumption) | omega) (by first | assumption | exact Ne.symm (by assumption) | omega) (by first | assumption | exact Ne.symm (by assumption) | omega) (by first | assumption | exact Ne.symm (by assumption) | omega) (by first | assumption | exact Ne.symm (by assumption) | omega) (by first | assumption | exact Ne.symm (by assumption) | omega) (by first | assumption | exact Ne.symm (by assumption) | omega) (by first | assumption | exact Ne.symm (by assumption) | omega) (by first | assumption | exact Ne.symm (by assumption) | omega) (by first | assumption | exact Ne.symm (by assumption) | omega) (by first | assumption | exact Ne.symm (by assumption) | omega) (by first | assumption | exact Ne.symm (by assumption) | omega) (by first | assumption | exact Ne.symm (by assumption) | omega) (by first | assumption | exact Ne.symm (by assumption) | omega) (by first | assumption | exact Ne.symm (by assumption) | omega) (by first | assumption | exact Ne.symm (by assumption) | omega) (by first | assumption | exact Ne.symm (by assumption) | omega) (by first | assumption | exact Ne.symm (by assumption) | omega) (by first | assumption | exact Ne.symm (by assumption) | omega) (by first | assumption | exact Ne.symm (by assumption) | omega) (by first | assumption | exact Ne.symm (by assumption) | omega) (by first | assumption | exact Ne.symm (by assumption) | omega) (by first | assumption | exact Ne.symm (by assumption) | omega) (by first | assumption | exact Ne.symm (by assumption) | omega) (by first | assumption | exact Ne.symm (by assumption) | omega) (by first | assumption | exact Ne.symm (by assumption) | omega) (by first | assumption | exact Ne.symm (by assumption) | omega) (by first | assumption | exact Ne.symm (by assumption) | omega) (by first | assumption | exact Ne.symm (by assumption) | omega) (by first | assumption | exact Ne.symm (by assumption) | omega) (by first | assumption | exact Ne.symm (by assumption) | omega) (by first | assumption | exact Ne.symm (by assumption) | omega) (by first | assumption | exact Ne.symm (by assumption) | omega)
end Go.Proofs.Ythnediamopehfaa
