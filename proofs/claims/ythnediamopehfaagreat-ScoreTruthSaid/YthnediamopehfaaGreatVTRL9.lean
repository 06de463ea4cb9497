/- Part of the proof: what the claim leans on. -/
import Derived.Test.YthnediamopehfaaGreatVTRL8
set_option maxHeartbeats 60000000
set_option maxRecDepth 100000
set_option linter.unusedSimpArgs false
set_option linter.unusedVariables false
namespace Go.Proofs.YthnediamopehfaaGreat
open Go.RowKit
theorem nea {a b : Nat} (h : a ≠ b := by first | assumption | exact Ne.symm (by assumption) | omega) : a ≠ b := h
theorem truth_main_c20 (x : Sh) (gx : ShIn x) (ws : Nat → Int) (v0 v1 : Int) (gv0 : 0 ≤ v0 ∧ v0 ≤ 255) (gv1 : 0 ≤ v1 ∧ v1 ≤ 255) (b d sb : Bl) (vi : Wi) (p0 p1 p2 p3 hh t0 t1 u0 u1 lo hi off cal q1 q2 n : Int) (dd : Nat → Int) (LI : List Sp) (w : World) (gws : ∀ j, j < 9 → -128 ≤ ws j ∧ ws j ≤ 127) (hbx : shBl x = d) (ht : twinB d = b) (hcx : shCal x = (lo, hi)) (hto : b.isOpen = vi.isOpen) (hv : wishOf x b lo hi = vi) (hkd : checkErr d = 0) (hck : checkErr b = 0) (hcs : checkErr sb = 0) (hwv : wishErr vi = 0) (hof : v0 % 6 = off) (gof : 0 ≤ off ∧ off ≤ 5) (hdd : ∀ j, j < 9 → (ws j).tmod (off + 1) = dd j) (gdd : ∀ j, j < 9 → -5 ≤ dd j ∧ dd j ≤ 5) (hbl : b = ⟨30, [p0, p1, p2, p3], hh, [t0, t1], [u0, u1], 9, b.isOpen⟩) (hsn : sb = ⟨30, [p0 + (dd 0), p1 + (dd 1), p2 + (dd 2), p3 + (dd 3)], hh + (dd 8), [if b.isOpen = true then t0 else max 0 (t0 + dd 6), if b.isOpen = true then t1 else max 0 (t1 + dd 7)], [max 0 (u0 + (dd 4)), max 0 (u1 + (dd 5))], 9, b.isOpen⟩) (gp0 : 0 ≤ p0 ∧ p0 ≤ 1000) (gp1 : 0 ≤ p1 ∧ p1 ≤ 1000) (gp2 : 0 ≤ p2 ∧ p2 ≤ 1000) (gp3 : 0 ≤ p3 ∧ p3 ≤ 1000) (ghh : 0 ≤ hh ∧ hh ≤ 1000) (gt0 : 0 ≤ t0 ∧ t0 ≤ 1000) (gt1 : 0 ≤ t1 ∧ t1 ≤ 1000) (gu0 : 0 ≤ u0 ∧ u0 ≤ 1000) (gu1 : 0 ≤ u1 ∧ u1 ≤ 1000) (j1 : 1 ≤ lo) (j2 : lo ≤ hi) (j3 : hi ≤ 10000) (gmu : 0 ≤ v1 * (hi - lo) ∧ v1 * (hi - lo) ≤ 255 * (hi - lo)) (hcal : lo + ((v1 * (hi - lo)) / 255) = cal) (gcal : lo ≤ cal ∧ cal ≤ hi) (hLI : innerL sb (lo, hi) off = LI) (hL9 : LI.length = 9) (hmic : ∀ j, j < 9 → (nthP LI j).1 ≤ mic b cal j ∧ mic b cal j ≤ (nthP LI j).2) (hM : mayOf sb vi lo hi off = (n, 0)) (hn1 : lo ≤ n) (hn2 : n ≤ cal) (hM2 : mayOf b vi cal hi 0 = (cal, 0)) (hF : calErr b vi = 0) (hq : calOf b vi = (q1, q2)) (hq1 : q1 ≤ lo) (hq2 : hi ≤ q2) (n1 : b.panels.length ≤ 1000) (n2 : b.top.length ≤ 1000) (n3 : b.bottom.length ≤ 1000) (g_ : Nat → Value) (W_ : World) (bk1 : Nat) (bk2 : Nat) (bk3 : Nat) (bk4 : Nat) (bk5 : Nat) (a214' : Option Addr) (c215' : Nat) (g19' : Nat) (c22' : Nat) (g20' : Nat) (c23' : Nat) (g21' : Nat) (c24' : Nat) (g37' : Nat) (c40' : Nat) (g39' : Nat) (c42' : Nat) (g38' : Nat) (c41' : Nat) (bk7 : Nat) (bk6 : Nat) (bk0 : Nat) (zt0 zt1 : Int) (k_6 : g_ 6 = .bool false) (k_7 : g_ 7 = .pointer (some ⟨bk1, 0, none⟩)) (k_8 : g_ 8 = .pointer (some ⟨bk2, 0, none⟩)) (k_9 : g_ 9 = .pointer (some ⟨bk3, 0, none⟩)) (k_10 : g_ 10 = .pointer (some ⟨bk4, 0, none⟩)) (k_11 : g_ 11 = .pointer (some ⟨bk5, 0, none⟩)) (k_15 : g_ 15 = .int .i64 cal) (k_16 : g_ 16 = .slice a214' (LI.length) c215') (fB_ : Below w.heap.size w W_) (bl_0 : W_.heap[bk7]? = some (.cells #[.int .u8 x.x0, .int .u8 x.x1, .int .u8 x.x2, .int .u8 x.x3, .int .u8 x.xh, .int .u8 x.y0, .int .u8 x.y1, .int .u8 x.y2, .int .u8 x.y3, .bool x.xo, .int .u8 x.ca, .int .u8 x.cb, .int .u8 x.v0, .int .u8 x.v1, .int .u8 x.v2, .int .u8 x.v3, .int .u8 x.v4] 72 (0, 0))) (bl_1 : W_.heap[bk6]? = some (.cells #[.int .i8 ((ws 0)), .int .i8 ((ws 1)), .int .i8 ((ws 2)), .int .i8 ((ws 3)), .int .i8 ((ws 4)), .int .i8 ((ws 5)), .int .i8 ((ws 6)), .int .i8 ((ws 7)), .int .i8 ((ws 8))] 85 (0, 0))) (bl_2 : W_.heap[bk0]? = some (.cells #[.int .u8 v0, .int .u8 v1] 69 (0, 0))) (bl_3 : W_.heap[bk1]? = some (.cells #[.int .i64 b.tab, .slice (some ⟨g19', 0, none⟩) (b.panels.length) c22', .int .i64 b.height, .slice (some ⟨g20', 0, none⟩) (b.top.length) c23', .slice (some ⟨g21', 0, none⟩) (b.bottom.length) c24', .int .i64 b.slot, .bool b.isOpen] 24 (0, 0))) (bl_4 : W_.heap[bk2]? = some (.cells #[.int .i64 lo, .int .i64 hi] 26 (0, 0))) (bl_5 : W_.heap[bk3]? = some (.cells #[.int .i64 off] 3 (0, 0))) (bl_6 : W_.heap[bk4]? = some (.cells #[.int .i64 vi.length.1, .int .i64 vi.length.2, .int .i64 vi.width.1, .int .i64 vi.width.2, .int .i64 vi.height.1, .int .i64 vi.height.2, .int .i64 vi.outer.1, .int .i64 vi.outer.2, .int .i64 vi.inner.1, .int .i64 vi.inner.2, .bool vi.isOpen] 43 (0, 0))) (bl_7 : W_.heap[bk5]? = some (.cells #[.int .i64 30, .slice (some ⟨g37', 0, none⟩) 4 c40', .int .i64 (hh + (dd 8)), .slice (some ⟨g38', 0, none⟩) 2 c41', .slice (some ⟨g39', 0, none⟩) 2 c42', .int .i64 9, .bool b.isOpen] 24 (0, 0))) (ft_0 : OwnI 0 b.panels g19' c22' W_) (ft_1 : OwnI 0 b.top g20' c23' W_) (ft_2 : OwnI 0 b.bottom g21' c24' W_) (ft_3 : OwnI w.heap.size ([p0 + (dd 0), p1 + (dd 1), p2 + (dd 2), p3 + (dd 3)]) g37' c40' W_) (ft_4 : OwnI w.heap.size ([max 0 (u0 + (dd 4)), max 0 (u1 + (dd 5))]) g39' c42' W_) (ft_5 : OwnI w.heap.size ([zt0, zt1]) g38' c41' W_) (ft_6 : Pp W_ a214' LI.length c215' LI) (lw_bk7 : w.heap.size ≤ bk7) (lw_bk6 : w.heap.size ≤ bk6) (lw_bk0 : w.heap.size ≤ bk0) (lw_bk1 : w.heap.size ≤ bk1) (lw_bk2 : w.heap.size ≤ bk2) (lw_bk3 : w.heap.size ≤ bk3) (lw_bk4 : w.heap.size ≤ bk4) (lw_bk5 : w.heap.size ≤ bk5) (ne_0_1 : bk7 ≠ bk6) (ne_0_2 : bk7 ≠ bk0) (ne_1_2 : bk6 ≠ bk0) (ne_0_3 : bk7 ≠ bk1) (ne_1_3 : bk6 ≠ bk1) (ne_2_3 : bk0 ≠ bk1) (ne_0_4 : bk7 ≠ bk2) (ne_1_4 : bk6 ≠ bk2) (ne_2_4 : bk0 ≠ bk2) (ne_3_4 : bk1 ≠ bk2) (ne_0_5 : bk7 ≠ bk3) (ne_1_5 : bk6 ≠ bk3) (ne_2_5 : bk0 ≠ bk3) (ne_3_5 : bk1 ≠ bk3) (ne_4_5 : bk2 ≠ bk3) (ne_0_6 : bk7 ≠ bk4) (ne_1_6 : bk6 ≠ bk4) (ne_2_6 : bk0 ≠ bk4) (ne_3_6 : bk1 ≠ bk4) (ne_4_6 : bk2 ≠ bk4) (ne_5_6 : bk3 ≠ bk4) (ne_0_7 : bk7 ≠ bk5) (ne_1_7 : bk6 ≠ bk5) (ne_2_7 : bk0 ≠ bk5) (ne_3_7 : bk1 ≠ bk5) (ne_4_7 : bk2 ≠ bk5) (ne_5_7 : bk3 ≠ bk5) (ne_6_7 : bk4 ≠ bk5) (ne_0_8 : bk7 ≠ g37') (ne_1_8 : bk6 ≠ g37') (ne_2_8 : bk0 ≠ g37') (ne_3_8 : bk1 ≠ g37') (ne_4_8 : bk2 ≠ g37') (ne_5_8 : bk3 ≠ g37') (ne_6_8 : bk4 ≠ g37') (ne_7_8 : bk5 ≠ g37') (ne_0_9 : bk7 ≠ g39') (ne_1_9 : bk6 ≠ g39') (ne_2_9 : bk0 ≠ g39') (ne_3_9 : bk1 ≠ g39') (ne_4_9 : bk2 ≠ g39') (ne_5_9 : bk3 ≠ g39') (ne_6_9 : bk4 ≠ g39') (ne_7_9 : bk5 ≠ g39') (ne_8_9 : g37' ≠ g39') (ne_0_10 : bk7 ≠ g38') (ne_1_10 : bk6 ≠ g38') (ne_2_10 : bk0 ≠ g38') (ne_3_10 : bk1 ≠ g38') (ne_4_10 : bk2 ≠ g38') (ne_5_10 : bk3 ≠ g38') (ne_6_10 : bk4 ≠ g38') (ne_7_10 : bk5 ≠ g38') (ne_8_10 : g37' ≠ g38') (ne_9_10 : g39' ≠ g38') (zp_0 : zt0 = (if b.isOpen = true then t0 else max 0 (t0 + dd 6))) (zq_0 : zt1 = (if b.isOpen = true then t1 else max 0 (t1 + dd 7))) :
  (tailC 11 (bodyC Tryz.f10)).wp Tryz.prog (bodyPost Tryz.prog Tryz.f10 (fun e w' => e = .returned (.bool true) ∧ Below w.heap.size w w')) (fr 222 g_) W_ := by
 obtain ⟨hlb1, hlb2, hlb3⟩ := (good_nums hck).1
 obtain ⟨hld1, hld2, hld3⟩ := (good_nums hkd).1
 have hL9z : ((LI.length : Int) != 9) = false := by rw [hL9]; rfl
 have hn1n := Int.not_lt.2 hn1
 have hn2n := Int.not_lt.2 hn2
 have gdd0 := gdd 0 (by decide)
 have gdd1 := gdd 1 (by decide)
 have gdd2 := gdd 2 (by decide)
 have gdd3 := gdd 3 (by decide)
 have gdd4 := gdd 4 (by decide)
 have gdd5 := gdd 5 (by decide)
 have gdd6 := gdd 6 (by decide)
 have gdd7 := gdd 7 (by decide)
 have gdd8 := gdd 8 (by decide)
 have lt_bk7 := ltb bl_0
 have lt_bk6 := ltb bl_1
 have lt_bk0 := ltb bl_2
 have lt_bk1 := ltb bl_3
 have lt_bk2 := ltb bl_4
 have lt_bk3 := ltb bl_5
 have lt_bk4 := ltb bl_6
 have lt_bk5 := ltb bl_7
 have lo_ft_3 := ft_3.lim
 have lo_ft_4 := ft_4.lim
 have lo_ft_5 := ft_5.lim
 have lim225' := Pp.lim ft_6
 refine wp_seq_k fun K52 hK52 => ?_
 as_aux_lemma =>
 refine ry 4 [(127, 0), (128, 1), (129, 2), (18, 3)] [[], [], [0, 1], [], [0, 1, 2, 3]] (rel [is (.agg #[.int .i64 b.tab, .slice (some ⟨g19', 0, none⟩) (b.panels.length) c22', .int .i64 b.height, .slice (some ⟨g20', 0, none⟩) (b.top.length) c23', .slice (some ⟨g21', 0, none⟩) (b.bottom.length) c24', .int .i64 b.slot, .bool b.isOpen]), iI cal, is (.agg #[.int .i64 (mic b cal 0), .int .i64 (mic b cal 1), .int .i64 (mic b cal 2), .int .i64 (mic b cal 3), .int .i64 (mic b cal 4), .int .i64 (mic b cal 5), .int .i64 (mic b cal 6), .int .i64 (mic b cal 7), .int .i64 (mic b cal 8)]), bx 3 #[.int .i64 0, .int .i64 0, .int .i64 0, .int .i64 0, .int .i64 0, .int .i64 0, .int .i64 0, .int .i64 0, .int .i64 0] 76])
  ⟨fun f s W k l m p q a => opl rfl rfl rfl (a.v 7 k_7) (bwb bl_3 k) Tryz.underlying24 rfl (by kernel_rfl) rfl,
  fun f s W k l m p q a => opm (a.v 15 k_15),
  fun f s W k l m p q a => opd (args := #[.agg #[.int .i64 b.tab, .slice (some ⟨g19', 0, none⟩) (b.panels.length) c22', .int .i64 b.height, .slice (some ⟨g20', 0, none⟩) (b.top.length) c23', .slice (some ⟨g21', 0, none⟩) (b.bottom.length) c24', .int .i64 b.slot, .bool b.isOpen], .int .i64 cal]) rfl rfl (by simp [go_sem, a.e 127 (l 0 rfl), a.e 128 (l 1 rfl)]) (micros_blk _ _ _ _ _ _ b cal W ((ft_0.below k)).ii ((ft_1.below k)).ii ((ft_2.below k)).ii hck (by omega)) ((fun e W' h => by have h1 := h.1; exact ⟨_, h1, h.2, rfl⟩)),
  fun f s W k l m p q a => opb rfl rfl (by simp [go_sem]), trivial⟩ ?_
 intro f49 s49 W49 hB49 g49 hg49 z49
 have fB49 := hB49.f fB_
 have b49_0 := hB49.b bl_0
 have b49_1 := hB49.b bl_1
 have b49_2 := hB49.b bl_2
 have b49_3 := hB49.b bl_3
 have b49_4 := hB49.b bl_4
 have b49_5 := hB49.b bl_5
 have b49_6 := hB49.b bl_6
 have b49_7 := hB49.b bl_7
 have q226' := (ft_0.below hB49.below)
 have q227' := (ft_1.below hB49.below)
 have q228' := (ft_2.below hB49.below)
 have q229' := (ft_3.below hB49.below)
 have q230' := (ft_4.below hB49.below)
 have q231' := (ft_5.below hB49.below)
 have q232' := (ft_6.bw hB49)
 obtain ⟨r49_3, br49_3⟩ := hB49.is 3
 have lr49_3 := hB49.lr 3 br49_3
 have k49_129 := kt hg49 129 (hB49.is 2)
 have k49_18 := kt hg49 18 r49_3
 obtain ⟨W50, hW50⟩ : ∃ W', W' = W49.setRow (s49 3) #[.int .i64 (mic b cal 0), .int .i64 (mic b cal 1), .int .i64 (mic b cal 2), .int .i64 (mic b cal 3), .int .i64 (mic b cal 4), .int .i64 (mic b cal 5), .int .i64 (mic b cal 6), .int .i64 (mic b cal 7), .int .i64 (mic b cal 8)] := ⟨_, rfl⟩
 refine tsk (o := _) rfl ⟨rfl, rfl⟩ (run_seg hW50 (fr_ev k49_18) (fr_ev k49_129) br49_3 rfl rfl rfl rfl) ?_
 obtain ⟨fB50, nb50, ot50, z50⟩ := sgf hW50 fB49 br49_3 (by omega)
 clear hW50
 have b50_0 := ot50 _ _ nea b49_0
 have b50_1 := ot50 _ _ nea b49_1
 have b50_2 := ot50 _ _ nea b49_2
 have b50_3 := ot50 _ _ nea b49_3
 have b50_4 := ot50 _ _ nea b49_4
 have b50_5 := ot50 _ _ nea b49_5
 have b50_6 := ot50 _ _ nea b49_6
 have b50_7 := ot50 _ _ nea b49_7
 have q233' := q226'.other ot50 (own_ne q226' br49_3) z50
 have q234' := q227'.other ot50 (own_ne q227' br49_3) z50
 have q235' := q228'.other ot50 (own_ne q228' br49_3) z50
 have q236' := q229'.other ot50 nea z50
 have q237' := q230'.other ot50 nea z50
 have q238' := q231'.other ot50 nea z50
 have q239' := (q232'.otherA ot50 (fun g o e hx => by have := lim225' g o e hx; omega) z50)
 refine wpe ?_
 refine hK52 _ _ ?_
 refine wp_seq_k fun K53 hK53 => ?_
 refine wp_seq_k fun K54 hK54 => ?_
 as_aux_lemma =>
 refine ry 1 [(19, 0)] [[]] (rel [iI 0])
  ⟨fun f s W k l m p q a => opz, trivial⟩ ?_
 intro f51 s51 W51 hB51 g51 hg51 z51
 have fB51 := hB51.f fB50
 have b51_0 := hB51.b b50_0
 have b51_1 := hB51.b b50_1
 have b51_2 := hB51.b b50_2
 have b51_3 := hB51.b b50_3
 have b51_4 := hB51.b b50_4
 have b51_5 := hB51.b b50_5
 have b51_6 := hB51.b b50_6
 have b51_7 := hB51.b b50_7
 have b51_8 := hB51.b nb50
 have q240' := (q233'.below hB51.below)
 have q241' := (q234'.below hB51.below)
 have q242' := (q235'.below hB51.below)
 have q243' := (q236'.below hB51.below)
 have q244' := (q237'.below hB51.below)
 have q245' := (q238'.below hB51.below)
 have q246' := (q239'.bw hB51)
 refine hK54 _ _ ?_
 have k51_6 := kt hg51 6 (kt hg49 6 k_6)
 have k51_7 := kt hg51 7 (kt hg49 7 k_7)
 have k51_8 := kt hg51 8 (kt hg49 8 k_8)
 have k51_9 := kt hg51 9 (kt hg49 9 k_9)
 have k51_10 := kt hg51 10 (kt hg49 10 k_10)
 have k51_11 := kt hg51 11 (kt hg49 11 k_11)
 have k51_15 := kt hg51 15 (kt hg49 15 k_15)
 have k51_16 := kt hg51 16 (kt hg49 16 k_16)
 have k51_18 := kt hg51 18 k49_18
 have k51_19 := kt hg51 19 (hB51.is 0)
 refine wp_block ?_
 refine wp_loop_n (fun m_ a_ W_ => ∃ g_ : Nat → Value, a_ = fr 222 g_ ∧ (∃ j : Nat, m_ = 9 - j ∧ g_ 6 = .bool false ∧ g_ 7 = .pointer (some ⟨bk1, 0, none⟩) ∧ g_ 8 = .pointer (some ⟨bk2, 0, none⟩) ∧ g_ 9 = .pointer (some ⟨bk3, 0, none⟩) ∧ g_ 10 = .pointer (some ⟨bk4, 0, none⟩) ∧ g_ 11 = .pointer (some ⟨bk5, 0, none⟩) ∧ g_ 15 = .int .i64 cal ∧ g_ 16 = .slice a214' (LI.length) c215' ∧ g_ 18 = .pointer (some ⟨(s49 3), 0, none⟩) ∧ g_ 19 = .int .i64 ((j : Int)) ∧ Below w.heap.size w W_ ∧ W51.heap.size ≤ W_.heap.size ∧ W_.heap[bk7]? = some (.cells #[.int .u8 x.x0, .int .u8 x.x1, .int .u8 x.x2, .int .u8 x.x3, .int .u8 x.xh, .int .u8 x.y0, .int .u8 x.y1, .int .u8 x.y2, .int .u8 x.y3, .bool x.xo, .int .u8 x.ca, .int .u8 x.cb, .int .u8 x.v0, .int .u8 x.v1, .int .u8 x.v2, .int .u8 x.v3, .int .u8 x.v4] 72 (0, 0)) ∧ W_.heap[bk6]? = some (.cells #[.int .i8 ((ws 0)), .int .i8 ((ws 1)), .int .i8 ((ws 2)), .int .i8 ((ws 3)), .int .i8 ((ws 4)), .int .i8 ((ws 5)), .int .i8 ((ws 6)), .int .i8 ((ws 7)), .int .i8 ((ws 8))] 85 (0, 0)) ∧ W_.heap[bk0]? = some (.cells #[.int .u8 v0, .int .u8 v1] 69 (0, 0)) ∧ W_.heap[bk1]? = some (.cells #[.int .i64 b.tab, .slice (some ⟨g19', 0, none⟩) (b.panels.length) c22', .int .i64 b.height, .slice (some ⟨g20', 0, none⟩) (b.top.length) c23', .slice (some ⟨g21', 0, none⟩) (b.bottom.length) c24', .int .i64 b.slot, .bool b.isOpen] 24 (0, 0)) ∧ W_.heap[bk2]? = some (.cells #[.int .i64 lo, .int .i64 hi] 26 (0, 0)) ∧ W_.heap[bk3]? = some (.cells #[.int .i64 off] 3 (0, 0)) ∧ W_.heap[bk4]? = some (.cells #[.int .i64 vi.length.1, .int .i64 vi.length.2, .int .i64 vi.width.1, .int .i64 vi.width.2, .int .i64 vi.height.1, .int .i64 vi.height.2, .int .i64 vi.outer.1, .int .i64 vi.outer.2, .int .i64 vi.inner.1, .int .i64 vi.inner.2, .bool vi.isOpen] 43 (0, 0)) ∧ W_.heap[bk5]? = some (.cells #[.int .i64 30, .slice (some ⟨g37', 0, none⟩) 4 c40', .int .i64 (hh + (dd 8)), .slice (some ⟨g38', 0, none⟩) 2 c41', .slice (some ⟨g39', 0, none⟩) 2 c42', .int .i64 9, .bool b.isOpen] 24 (0, 0)) ∧ W_.heap[(s49 3)]? = some (.cells #[.int .i64 (mic b cal 0), .int .i64 (mic b cal 1), .int .i64 (mic b cal 2), .int .i64 (mic b cal 3), .int .i64 (mic b cal 4), .int .i64 (mic b cal 5), .int .i64 (mic b cal 6), .int .i64 (mic b cal 7), .int .i64 (mic b cal 8)] 76 (0, 0)) ∧ OwnI 0 b.panels g19' c22' W_ ∧ OwnI 0 b.top g20' c23' W_ ∧ OwnI 0 b.bottom g21' c24' W_ ∧ OwnI w.heap.size ([p0 + (dd 0), p1 + (dd 1), p2 + (dd 2), p3 + (dd 3)]) g37' c40' W_ ∧ OwnI w.heap.size ([max 0 (u0 + (dd 4)), max 0 (u1 + (dd 5))]) g39' c42' W_ ∧ OwnI w.heap.size ([zt0, zt1]) g38' c41' W_ ∧ Pp W_ a214' LI.length c215' LI ∧ (j ≤ 9))) ⟨_, g51, rfl, 0, rfl, k51_6, k51_7, k51_8, k51_9, k51_10, k51_11, k51_15, k51_16, k51_18, k51_19.trans (by rfl), fB51, Nat.le_refl _, b51_0, b51_1, b51_2, b51_3, b51_4, b51_5, b51_6, b51_7, b51_8, q240', q241', q242', q243', q244', q245', q246', (by omega)⟩ ?_
 rintro _ _ W_247 ⟨g_247, rfl, j, rfl, k_247_6, k_247_7, k_247_8, k_247_9, k_247_10, k_247_11, k_247_15, k_247_16, k_247_18, k_247_19, fB_247, z_247, b_247_0, b_247_1, b_247_2, b_247_3, b_247_4, b_247_5, b_247_6, b_247_7, b_247_8, q248', q249', q250', q251', q252', q253', q254', lp0⟩
 refine wp_seq_k fun K55 hK55 => ?_
 refine wp_seq_k fun K56 hK56 => ?_
 as_aux_lemma =>
 refine ry 2 [(130, 0), (131, 1)] [[], [0]] (rel [iI ((j : Int)), iB (decide ((j : Int) < 9))])
  ⟨fun f s W k l m p q a => opm (a.v 19 k_247_19),
  fun f s W k l m p q a => opv rfl rfl (by simp [go_sem, a.e 130 (l 0 rfl)]) rfl, trivial⟩ ?_
 intro f52 s52 W52 hB52 g52 hg52 z52
 have fB52 := hB52.f fB_247
 have b52_0 := hB52.b b_247_0
 have b52_1 := hB52.b b_247_1
 have b52_2 := hB52.b b_247_2
 have b52_3 := hB52.b b_247_3
 have b52_4 := hB52.b b_247_4
 have b52_5 := hB52.b b_247_5
 have b52_6 := hB52.b b_247_6
 have b52_7 := hB52.b b_247_7
 have b52_8 := hB52.b b_247_8
 have q255' := (q248'.below hB52.below)
 have q256' := (q249'.below hB52.below)
 have q257' := (q250'.below hB52.below)
 have q258' := (q251'.below hB52.below)
 have q259' := (q252'.below hB52.below)
 have q260' := (q253'.below hB52.below)
 have q261' := (q254'.bw hB52)
 refine hK56 _ _ ?_
 have k52_6 := kt hg52 6 k_247_6
 have k52_7 := kt hg52 7 k_247_7
 have k52_8 := kt hg52 8 k_247_8
 have k52_9 := kt hg52 9 k_247_9
 have k52_10 := kt hg52 10 k_247_10
 have k52_11 := kt hg52 11 k_247_11
 have k52_15 := kt hg52 15 k_247_15
 have k52_16 := kt hg52 16 k_247_16
 have k52_18 := kt hg52 18 k_247_18
 have k52_19 := kt hg52 19 k_247_19
 have k52_131 := kt hg52 131 (hB52.is 1)
 refine wp_cond_split (t := decide ((j : Int) < 9)) ((fr_eval rfl).trans k52_131) (fun hc57 => ?_) (fun hc57 => ?_)
 ·
  have hc57' := hc57; try simp only [ba] at hc57'
  have hj9 : j < 9 := by omega
  have hj9i : (j : Int) < 9 := by omega
  have lij := Nat.not_le.2 (show j < LI.length by omega)
  obtain ⟨bq, oq, hab⟩ := q261'.at' (by omega)
  have hmm := hmic j hj9
  have hma := Int.not_lt.2 hmm.1
  have hmb := Int.not_lt.2 hmm.2
  refine wp_skip ?_
  refine hK55 _ _ ?_
  refine wp_seq_k fun K58 hK58 => ?_
  refine wp_block ?_
  refine wp_seq_k fun K59 hK59 => ?_
  as_aux_lemma =>
  refine ry 20 [(134, 0), (135, 1), (136, 2), (137, 3), (138, 4), (139, 5), (140, 6), (141, 7), (142, 8), (143, 9), (144, 10), (145, 11), (146, 12), (147, 13), (148, 14), (149, 15), (150, 16), (151, 17), (152, 18), (153, 19)] [[], [0], [1], [], [], [3, 4], [5], [6], [2, 7], [8], [9], [9, 10], [9, 11], [9], [9], [9, 13, 14], [9, 15], [9, 16], [9, 12, 17], [9, 18]] (rel [iI ((j : Int)), is (.pointer (some ⟨(s49 3), j, none⟩)), iI ((mic b cal j)), is (.slice a214' (LI.length) c215'), iI ((j : Int)), is (.pointer (some ⟨bq, oq + j * 2, none⟩)), is (.pointer (some ⟨bq, oq + j * 2, none⟩)), iI (((nthP LI j).1)), iB false, iB false, iI ((j : Int)), is (.pointer (some ⟨(s49 3), j, none⟩)), iI ((mic b cal j)), is (.slice a214' (LI.length) c215'), iI ((j : Int)), is (.pointer (some ⟨bq, oq + j * 2, none⟩)), is (.pointer (some ⟨bq, oq + j * 2 + 1, none⟩)), iI (((nthP LI j).2)), iB false, iB false])
   ⟨fun f s W k l m p q a => opm (a.v 19 k52_19),
  fun f s W k l m p q a => opv rfl rfl (by simp [go_sem, a.e 18 k52_18, a.e 134 (l 0 rfl), hj9, hj9i]) rfl,
  fun f s W k l m p q a => by have cm := (cb b52_8 k j).trans (mic_cell hj9); exact opv rfl rfl (by simp [go_sem, a.e 135 (l 1 rfl), cm]) rfl,
  fun f s W k l m p q a => opm (a.v 16 k52_16),
  fun f s W k l m p q a => opm (a.v 19 k52_19),
  fun f s W k l m p q a => opv rfl rfl (by simp [go_sem, a.e 137 (l 3 rfl), a.e 138 (l 4 rfl), hab, lij]) rfl,
  fun f s W k l m p q a => opv rfl rfl (by simp [go_sem, a.e 139 (l 5 rfl)]) rfl,
  fun f s W k l m p q a => by have cu := (pp_nth (i := j) (q261'.below k (Nat.le_refl _)) hab (by omega)).1; exact opv rfl rfl (by simp [go_sem, a.e 140 (l 6 rfl), cu]) rfl,
  fun f s W k l m p q a => opv rfl rfl (by simp [go_sem, a.e 136 (l 2 rfl), a.e 141 (l 7 rfl), hma]) rfl,
  fun f s W k l m p q a => opm (a.v 142 (l 8 rfl)),
  fun f s W k l m p q a => osure rfl rfl (a.says (d := 143) rfl rfl (l 9 rfl)) (gv (by simp [go_sem, a.e 19 k52_19]) rfl),
  fun f s W k l m p q a => osure rfl rfl (a.says (d := 143) rfl rfl (l 9 rfl)) (gv (by simp [go_sem, a.e 18 k52_18, a.e 144 (l 10 rfl), hj9, hj9i]) rfl),
  fun f s W k l m p q a => osure rfl rfl (a.says (d := 143) rfl rfl (l 9 rfl)) (by have cm := (cb b52_8 k j).trans (mic_cell hj9); exact gv (by simp [go_sem, a.e 145 (l 11 rfl), cm]) rfl),
  fun f s W k l m p q a => osure rfl rfl (a.says (d := 143) rfl rfl (l 9 rfl)) (gv (by simp [go_sem, a.e 16 k52_16]) rfl),
  fun f s W k l m p q a => osure rfl rfl (a.says (d := 143) rfl rfl (l 9 rfl)) (gv (by simp [go_sem, a.e 19 k52_19]) rfl),
  fun f s W k l m p q a => osure rfl rfl (a.says (d := 143) rfl rfl (l 9 rfl)) (gv (by simp [go_sem, a.e 147 (l 13 rfl), a.e 148 (l 14 rfl), hab, lij]) rfl),
  fun f s W k l m p q a => osure rfl rfl (a.says (d := 143) rfl rfl (l 9 rfl)) (gv (by simp [go_sem, a.e 149 (l 15 rfl)]) rfl),
  fun f s W k l m p q a => osure rfl rfl (a.says (d := 143) rfl rfl (l 9 rfl)) (by have cu := (pp_nth (i := j) (q261'.below k (Nat.le_refl _)) hab (by omega)).2; exact gv (by simp [go_sem, a.e 150 (l 16 rfl), cu]) rfl),
  fun f s W k l m p q a => osure rfl rfl (a.says (d := 143) rfl rfl (l 9 rfl)) (gv (by simp [go_sem, a.e 146 (l 12 rfl), a.e 151 (l 17 rfl), hmb]) rfl),
  fun f s W k l m p q a => opk (c := false) rfl rfl (fun _ => by simp [go_sem, a.e 143 (l 9 rfl), a.e 152 (l 18 rfl)]) (fun h => absurd h (by decide)), trivial⟩ ?_
  intro f53 s53 W53 hB53 g53 hg53 z53
  have q262' := (q255'.below hB53.below)
  have q263' := (q256'.below hB53.below)
  have q264' := (q257'.below hB53.below)
  have q265' := (q258'.below hB53.below)
  have q266' := (q259'.below hB53.below)
  have q267' := (q260'.below hB53.below)
  have q268' := (q261'.bw hB53)
  refine hK59 _ _ ?_
  have k53_19 := kt hg53 19 k52_19
  have k53_153 := kt hg53 153 (hB53.is 19)
  refine wp_cond_false ((fr_eval rfl).trans k53_153) ?_
  refine wp_skip ?_
  refine ibn ?_
  refine hK58 _ _ ?_
  as_aux_lemma =>
  refine ry 3 [(132, 0), (133, 1), (19, 2)] [[], [0], [0, 1]] (rel [iI ((j : Int)), iI ((j : Int) + 1), iI ((j : Int) + 1)])
   ⟨fun f s W k l m p q a => opm (a.v 19 ((p 2 19 rfl rfl).trans k53_19)),
  fun f s W k l m p q a => opv rfl rfl (by simp [go_sem, a.e 132 (l 0 rfl), IntWalk.i64_in ((j : Int) + 1) (by omega)]) rfl,
  fun f s W k l m p q a => opm (a.v 133 (l 1 rfl)), trivial⟩ ?_
  intro f54 s54 W54 hB54 g54 hg54 z54
  have fB54 := hB54.f (hB53.f fB52)
  have b54_0 := hB54.b (hB53.b b52_0)
  have b54_1 := hB54.b (hB53.b b52_1)
  have b54_2 := hB54.b (hB53.b b52_2)
  have b54_3 := hB54.b (hB53.b b52_3)
  have b54_4 := hB54.b (hB53.b b52_4)
  have b54_5 := hB54.b (hB53.b b52_5)
  have b54_6 := hB54.b (hB53.b b52_6)
  have b54_7 := hB54.b (hB53.b b52_7)
  have b54_8 := hB54.b (hB53.b b52_8)
  have q269' := (q262'.below hB54.below)
  have q270' := (q263'.below hB54.below)
  have q271' := (q264'.below hB54.below)
  have q272' := (q265'.below hB54.below)
  have q273' := (q266'.below hB54.below)
  have q274' := (q267'.below hB54.below)
  have q275' := (q268'.bw hB54)
  refine wpe ?_
  have k54_6 := kt hg54 6 (kt hg53 6 k52_6)
  have k54_7 := kt hg54 7 (kt hg53 7 k52_7)
  have k54_8 := kt hg54 8 (kt hg53 8 k52_8)
  have k54_9 := kt hg54 9 (kt hg53 9 k52_9)
  have k54_10 := kt hg54 10 (kt hg53 10 k52_10)
  have k54_11 := kt hg54 11 (kt hg53 11 k52_11)
  have k54_15 := kt hg54 15 (kt hg53 15 k52_15)
  have k54_16 := kt hg54 16 (kt hg53 16 k52_16)
  have k54_18 := kt hg54 18 (kt hg53 18 k52_18)
  have k54_19 := kt hg54 19 (hB54.is 2)
  refine then_normal ?_
  exact ⟨_, by omega, g54, rfl, j + 1, rfl, k54_6, k54_7, k54_8, k54_9, k54_10, k54_11, k54_15, k54_16, k54_18, k54_19.trans (by go_num), fB54, (by omega), b54_0, b54_1, b54_2, b54_3, b54_4, b54_5, b54_6, b54_7, b54_8, q269', q270', q271', q272', q273', q274', q275', (by omega)⟩
 ·
  have hc57' := hc57; try simp only [ba] at hc57'
  refine wp_exit ?_
  refine then_exit ?_
  refine then_exit ?_
  refine inBlock_at ?_
  refine hK53 _ _ ?_
  exact truth_main_c26 x gx ws v0 v1 gv0 gv1 b d sb vi p0 p1 p2 p3 hh t0 t1 u0 u1 lo hi off cal q1 q2 n dd LI w gws hbx ht hcx hto hv hkd hck hcs hwv hof gof hdd gdd hbl hsn gp0 gp1 gp2 gp3 ghh gt0 gt1 gu0 gu1 j1 j2 j3 gmu hcal gcal hLI hL9 hmic hM hn1 hn2 hM2 hF hq hq1 hq2 n1 n2 n3 g52 W52 bk1 bk2 bk3 bk4 bk5 a214' c215' (s49 3) g19' c22' g20' c23' g21' c24' g37' c40' g39' c42' g38' c41' bk7 bk6 bk0 zt0 zt1 k52_6 k52_7 k52_8 k52_9 k52_10 k52_11 k52_15 fB52 b52_0 b52_1 b52_2 b52_3 b52_4 b52_5 b52_6 b52_7 b52_8 q255' q256' q257' q258' q259' q260' q261' (by omega) (by omega) (by omega) (by omega) (by omega) (by omega) (by omega) (by omega) (by omega) nea nea nea nea nea nea nea nea nea nea nea nea nea nea nea nea nea nea nea nea nea nea nea nea nea nea nea nea nea nea nea nea nea nea nea nea nea nea nea nea nea nea nea nea nea nea nea nea nea nea nea nea nea nea nea nea nea nea nea nea nea nea nea nea nea nea zp_0 zq_0
end Go.Proofs.YthnediamopehfaaGreat
