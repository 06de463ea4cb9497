/- Part of the proof: what the claim leans on. -/
import Derived.Test.YtiocklgakklkpaaNAY
set_option linter.unusedSimpArgs false
set_option linter.unusedVariables false
namespace Go.Proofs.Ytiocklgakklkpaa
open Go.RowKit
set_option maxRecDepth 100000 in
set_option maxHeartbeats 40000000 in
theorem inside_main_c6 (fv : Nat → Int) (ps : Nat → Pa) (qs : Nat → Fu) (ta : Option Addr) (tn tc : Nat) (bs : Nat → Int) (tb lg wd hh fp fq sl : Int) (b : Bl) (ka kb m1 m2 tq : Int) (L9 : List Sp) (w : World) (hst : ∀ W, Calls Try.prog 6 #[.agg #[.int .u8 ((fv 0)), .int .u8 ((fv 1)), .int .u8 ((fv 2)), .int .u8 ((fv 3)), .int .u8 ((fv 4)), .int .u8 ((fv 5)), .int .u8 ((fv 6)), .int .u8 ((fv 7)), .int .u8 ((fv 8)), .int .u8 ((fv 9)), .int .u8 ((fv 10)), .int .u8 ((fv 11)), .int .u8 ((fv 12)), .int .u8 ((fv 13)), .int .u8 ((fv 14)), .int .u8 ((fv 15)), .int .u8 ((fv 16)), .int .u8 ((fv 17)), .int .u8 ((fv 18)), .int .u8 ((fv 19)), .int .u8 ((fv 20)), .int .u8 ((fv 21)), .int .u8 ((fv 22)), .int .u8 ((fv 23)), .int .u8 ((fv 24))]] W (StoOP ps qs W)) (hbox : ∀ W, Calls Try.prog 7 #[.agg #[.int .u8 ((fv 0)), .int .u8 ((fv 1)), .int .u8 ((fv 2)), .int .u8 ((fv 3)), .int .u8 ((fv 4)), .int .u8 ((fv 5)), .int .u8 ((fv 6)), .int .u8 ((fv 7)), .int .u8 ((fv 8)), .int .u8 ((fv 9)), .int .u8 ((fv 10)), .int .u8 ((fv 11)), .int .u8 ((fv 12)), .int .u8 ((fv 13)), .int .u8 ((fv 14)), .int .u8 ((fv 15)), .int .u8 ((fv 16)), .int .u8 ((fv 17)), .int .u8 ((fv 18)), .int .u8 ((fv 19)), .int .u8 ((fv 20)), .int .u8 ((fv 21)), .int .u8 ((fv 22)), .int .u8 ((fv 23)), .int .u8 ((fv 24))], .int .i64 0] W (BoxOP tb lg wd hh fp fq sl W)) (hI : FoldIn ps qs) (hb : (⟨tb, [lg, wd, lg, wd], hh, [fp, fp], [fp, fq], sl, false⟩ : Bl) = b) (hck : checkErr b = 0) (hT : ByV w ta tn bs) (hm1 : w1S (o1 (ps 0)) (o1 (ps 1)) (o1 (ps 2)) (qs 0) = m1) (hm2 : w1S (o2 (ps 0)) (o2 (ps 1)) (o2 (ps 2)) (qs 0) = m2) (hka : lo1 ps qs = ka) (hkb : hi1 ps qs = kb) (htq : cal1 ps qs tn bs = tq) (j1 : 1 ≤ ka) (j2 : ka ≤ kb) (j3 : kb ≤ 10000) (htq1 : ka ≤ tq) (htq2 : tq ≤ kb) (hL9 : innerL b (ka, kb) 0 = L9) (hn9 : L9.length = 9) (hmic : ∀ j c, j < 9 → ka ≤ c → c ≤ kb → (nthP L9 j).1 ≤ mic b c j ∧ mic b c j ≤ (nthP L9 j).2) (hmh : ∀ j, j < 9 → mic b kb j = (nthP L9 j).1) (hml : ∀ j, j < 9 → mic b ka j = (nthP L9 j).2) (glg : 0 ≤ lg ∧ lg ≤ 3000) (gwd : 0 ≤ wd ∧ wd ≤ 3000) (ghh : 0 ≤ hh ∧ hh ≤ 3000) (gfp : 0 ≤ fp ∧ fp ≤ 3000) (gfq : 0 ≤ fq ∧ fq ≤ 3000) (gc_ : Nat → Value) (Wc_ : World) (bk0 : Nat) (bk1 : Nat) (bk2 : Nat) (a87' : Option Addr) (c88' : Nat) (g1' : Nat) (c3' : Nat) (g2' : Nat) (c4' : Nat) (g7' : Nat) (c9' : Nat) (g8' : Nat) (c10' : Nat) (g13' : Nat) (c16' : Nat) (g14' : Nat) (c17' : Nat) (g15' : Nat) (c18' : Nat) (bk3 : Nat) (bk4 : Nat) (bk5 : Nat)  (k_1 : gc_ 1 = .slice (ta) (tn) (tc)) (k_4 : gc_ 4 = .bool false) (k_5 : gc_ 5 = .pointer (some ⟨bk0, 0, none⟩)) (k_6 : gc_ 6 = .pointer (some ⟨bk1, 0, none⟩)) (k_7 : gc_ 7 = .pointer (some ⟨bk2, 0, none⟩)) (k_11 : gc_ 11 = .slice (a87') (L9.length) (c88')) (fB_ : Below w.heap.size w Wc_) (bl_0 : Wc_.heap[bk3]? = some (.cells #[.int .u8 ((fv 0)), .int .u8 ((fv 1)), .int .u8 ((fv 2)), .int .u8 ((fv 3)), .int .u8 ((fv 4)), .int .u8 ((fv 5)), .int .u8 ((fv 6)), .int .u8 ((fv 7)), .int .u8 ((fv 8)), .int .u8 ((fv 9)), .int .u8 ((fv 10)), .int .u8 ((fv 11)), .int .u8 ((fv 12)), .int .u8 ((fv 13)), .int .u8 ((fv 14)), .int .u8 ((fv 15)), .int .u8 ((fv 16)), .int .u8 ((fv 17)), .int .u8 ((fv 18)), .int .u8 ((fv 19)), .int .u8 ((fv 20)), .int .u8 ((fv 21)), .int .u8 ((fv 22)), .int .u8 ((fv 23)), .int .u8 ((fv 24))] 28 (0, 0))) (bl_1 : Wc_.heap[bk0]? = some (.cells #[.slice (some ⟨g1', 0, none⟩) (3) (c3'), .slice (some ⟨g2', 0, none⟩) (2) (c4')] 33 (0, 0))) (bl_2 : Wc_.heap[bk1]? = some (.cells #[.slice (some ⟨g7', 0, none⟩) (3) (c9'), .slice (some ⟨g8', 0, none⟩) (1) (c10')] 46 (0, 0))) (bl_3 : Wc_.heap[bk2]? = some (.cells #[.int .i64 tb, .slice (some ⟨g13', 0, none⟩) (4) (c16'), .int .i64 hh, .slice (some ⟨g14', 0, none⟩) (2) (c17'), .slice (some ⟨g15', 0, none⟩) (2) (c18'), .int .i64 sl, .bool false] 37 (0, 0))) (bl_4 : Wc_.heap[bk4]? = some (.cells #[.int .i64 m1, .int .i64 m2] 40 (0, 0))) (bl_5 : Wc_.heap[bk5]? = some (.cells #[.int .i64 ka, .int .i64 kb] 40 (0, 0))) (ft_0 : OwnR 68 8 0 3 (paCells3 ps) g1' c3' Wc_) (ft_1 : OwnR 70 4 0 2 (fuCells2 qs) g2' c4' Wc_) (ft_2 : OwnI 0 ([0, 1, 2]) g7' c9' Wc_) (ft_3 : OwnI 0 ([0]) g8' c10' Wc_) (ft_4 : OwnI 0 ([lg, wd, lg, wd]) g13' c16' Wc_) (ft_5 : OwnI 0 ([fp, fp]) g14' c17' Wc_) (ft_6 : OwnI 0 ([fp, fq]) g15' c18' Wc_) (ft_7 : Pp Wc_ a87' L9.length c88' L9) (lw_bk3 : w.heap.size ≤ bk3) (lw_bk0 : w.heap.size ≤ bk0) (lw_bk1 : w.heap.size ≤ bk1) (lw_bk2 : w.heap.size ≤ bk2) (lw_bk4 : w.heap.size ≤ bk4) (lw_bk5 : w.heap.size ≤ bk5) :
  (tailC 5 (bodyC Try.f4)).wp Try.prog (bodyPost Try.prog Try.f4 (fun e w' => e = .returned (.bool true) ∧ Below w.heap.size w w')) (fr 191 gc_) Wc_ := by
 have hL9z : ((L9.length : Int) != 9) = false := by rw [hn9]; rfl
 have lt_bk3 := lt_of_blk bl_0
 have lt_bk0 := lt_of_blk bl_1
 have lt_bk1 := lt_of_blk bl_2
 have lt_bk2 := lt_of_blk bl_3
 have lt_bk4 := lt_of_blk bl_4
 have lt_bk5 := lt_of_blk bl_5
 have lo_ft_2 := ft_2.lim
 have lo_ft_3 := ft_3.lim
 have lo_ft_4 := ft_4.lim
 have lo_ft_5 := ft_5.lim
 have lo_ft_6 := ft_6.lim
 have lim99' := Pp.lim ft_7
 have fA10 : Below Wc_.heap.size Wc_ Wc_ := Below.refl _ _
 refine wp_seq_k fun K8 hK8 => ?_
 refine wp_seq_k fun K9 hK9 => ?_
 as_aux_lemma =>
 refine region_dk 1 [(13, 0)] [[]] (rel [is (.int .i64 0)])
  ⟨is_k, trivial⟩
  ⟨fun f s W g l m n p a => opv rfl rfl (by simp [go_sem]) rfl, trivial⟩ ?_
 intro f11 s11 W11 hB11 g11 hg11
 have fB11 := hB11.f fB_
 have z11 := hB11.below.size
 have fA11 := hB11.f fA10
 refine hK9 _ _ ?_
 have k11_1 := kt hg11 1 k_1
 have k11_4 := kt hg11 4 k_4
 have k11_5 := kt hg11 5 k_5
 have k11_6 := kt hg11 6 k_6
 have k11_7 := kt hg11 7 k_7
 have k11_11 := kt hg11 11 k_11
 have k11_13 := kt hg11 13 (hB11.is 0)
 refine wp_block ?_
 refine wp_loop_n (fun m_ a_ W_ => ∃ g_ : Nat → Value, a_ = fr 191 g_ ∧ (∃ k : Nat, m_ = 3 - k ∧ g_ 1 = .slice (ta) (tn) (tc) ∧ g_ 4 = .bool false ∧ g_ 5 = .pointer (some ⟨bk0, 0, none⟩) ∧ g_ 6 = .pointer (some ⟨bk1, 0, none⟩) ∧ g_ 7 = .pointer (some ⟨bk2, 0, none⟩) ∧ g_ 11 = .slice (a87') (L9.length) (c88') ∧ g_ 13 = .int .i64 ((k : Int)) ∧ Below w.heap.size w W_ ∧ W11.heap.size ≤ W_.heap.size ∧ Below Wc_.heap.size Wc_ W_ ∧ (k ≤ 3))) ⟨_, g11, rfl, 0, rfl, k11_1, k11_4, k11_5, k11_6, k11_7, k11_11, k11_13.trans (by rfl), fB11, Nat.le_refl _, fA11, (by omega)⟩ ?_
 rintro _ _ W_100 ⟨g_100, rfl, k, rfl, k_100_1, k_100_4, k_100_5, k_100_6, k_100_7, k_100_11, k_100_13, fB_100, z_100, fA_100, lp0⟩
 refine wp_seq_k fun K10 hK10 => ?_
 refine wp_seq_k fun K11 hK11 => ?_
 as_aux_lemma =>
 refine region_dk 2 [(50, 0), (51, 1)] [[], [0]] (rel [is (.int .i64 ((k : Int))),
   is (.bool (decide ((k : Int) < 3)))])
  ⟨is_k, is_k, trivial⟩
  ⟨fun f s W g l m n p a => opv rfl rfl (by simp [go_sem, a.e 13 k_100_13]) rfl,
  fun f s W g l m n p a => opv rfl rfl (by simp [go_sem, a.e 50 (l 0 rfl)]) rfl, trivial⟩ ?_
 intro f12 s12 W12 hB12 g12 hg12
 have fB12 := hB12.f fB_100
 have z12 := hB12.below.size
 have fA12 := hB12.f fA_100
 refine hK11 _ _ ?_
 have k12_1 := kt hg12 1 k_100_1
 have k12_4 := kt hg12 4 k_100_4
 have k12_5 := kt hg12 5 k_100_5
 have k12_6 := kt hg12 6 k_100_6
 have k12_7 := kt hg12 7 k_100_7
 have k12_11 := kt hg12 11 k_100_11
 have k12_13 := kt hg12 13 k_100_13
 have k12_51 := kt hg12 51 (hB12.is 1)
 refine wp_cond_split (t := decide ((k : Int) < 3)) ((fr_eval rfl).trans k12_51) (fun hc12 => ?_) (fun hc12 => ?_)
 ·
  have hc12' := hc12; try simp only [ba] at hc12'
  have hk3 : k = 0 ∨ k = 1 ∨ k = 2 := by omega
  refine wp_skip ?_
  refine hK10 _ _ ?_
  refine wp_seq_k fun K13 hK13 => ?_
  refine wp_block ?_
  refine wp_seq_k fun K14 hK14 => ?_
  suffices J101' : ∀ (g_ : Nat → Value) (W_ : World), (∃ (tz : Int), g_ 1 = .slice (ta) (tn) (tc) ∧ g_ 4 = .bool false ∧ g_ 5 = .pointer (some ⟨bk0, 0, none⟩) ∧ g_ 6 = .pointer (some ⟨bk1, 0, none⟩) ∧ g_ 7 = .pointer (some ⟨bk2, 0, none⟩) ∧ g_ 11 = .slice (a87') (L9.length) (c88') ∧ g_ 13 = .int .i64 ((k : Int)) ∧ g_ 51 = .bool (decide ((k : Int) < 3)) ∧ g_ 14 = .int .i64 tz ∧ Below w.heap.size w W_ ∧ W12.heap.size ≤ W_.heap.size ∧ Below Wc_.heap.size Wc_ W_ ∧ (ka ≤ tz ∧ tz ≤ kb) ∧ (k = 1 → tz = ka) ∧ (k = 2 → tz = kb)) → K14 (fr 191 g_) W_ by
   rcases hk3 with rfl | rfl | rfl
   ·
    as_aux_lemma =>
    refine region_dk 10 [(54, 0), (55, 1), (56, 2), (57, 3), (58, 4), (59, 5), (60, 6), (61, 7), (62, 8), (14, 9)] [[], [], [], [], [], [2, 3, 4], [], [2, 3, 4, 5, 6], [0, 1, 2, 3, 4, 5, 6, 7], [0, 1, 2, 3, 4, 5, 6, 7, 8]] (rel [is (.agg #[.slice (some ⟨g1', 0, none⟩) (3) (c3'), .slice (some ⟨g2', 0, none⟩) (2) (c4')]),
   is (.agg #[.slice (some ⟨g7', 0, none⟩) (3) (c9'), .slice (some ⟨g8', 0, none⟩) (1) (c10')]),
   is (.slice (ta) (tn) (tc)),
   row 3 1 #[.int .u8 0] 5,
   row 4 1 #[.int .u8 255] 5,
   isS fun s => .agg #[.slice (ta) (tn) (tc), .slice (some ⟨(s 3), 0, none⟩) (1) (1), .slice (some ⟨(s 4), 0, none⟩) (1) (1)],
   is (.int .i64 0),
   is (.slice (ta) (tn) (tc)),
   is (.int .i64 tq),
   is (.int .i64 tq)])
     ⟨is_k, is_k, is_k, row_k, row_k, isS_k fun s s' e => by rw [e 3 (by simp), e 4 (by simp)], is_k, is_k, is_k, is_k, trivial⟩
     ⟨fun f s W g l m n p a => by have aW := below_trans fA12 g; exact opv rfl rfl (by simp [go_sem, a.e 5 k12_5, cb bl_1 aW 0, cb bl_1 aW 1]) rfl,
  fun f s W g l m n p a => by have aW := below_trans fA12 g; exact opv rfl rfl (by simp [go_sem, a.e 6 k12_6, cb bl_2 aW 0, cb bl_2 aW 1]) rfl,
  fun f s W g l m n p a => opv rfl rfl (by simp [go_sem, a.e 1 k12_1]) rfl,
  fun f s W g l m n p a => opr rfl rfl (by simp [go_sem]),
  fun f s W g l m n p a => opr rfl rfl (by simp [go_sem]),
  fun f s W g l m n p a => opv rfl rfl (by simp [go_sem, a.e 56 (l 2 rfl), a.e 57 (l 3 rfl).1, a.e 58 (l 4 rfl).1, upd]) rfl,
  fun f s W g l m n p a => opv rfl rfl (by simp [go_sem, a.e 13 k12_13]) rfl,
  fun f s W g l m n p a => by have ix_ : ∀ W : World, (Instr.index 61 (.agg #[.slice (ta) (tn) (tc), .slice (some ⟨(s 3), 0, none⟩) (1) (1), .slice (some ⟨(s 4), 0, none⟩) (1) (1)]) (.int .i64 0)).run Try.prog W = .ok (.slice (ta) (tn) (tc)) W := fun W => (by kernel_rfl); exact opv rfl rfl (by simp [go_sem, a.e 59 (l 5 rfl), a.e 60 (l 6 rfl), ix_]) rfl,
  fun f s W g l m n p a => by have aW := below_trans fA12 g; have q := below_trans fB12 g; exact opDo_call rfl rfl (by simp [go_sem, a.e 54 (l 0 rfl), a.e 55 (l 1 rfl), a.e 61 (l 7 rfl)]) (caliper_s hI (g1') c3' (g2') c4' (g7') c9' (g8') c10' W ((ft_0.below aW)).PaR3 ((ft_1.below aW)).FuR2 ((ft_2.below aW)).ii ((ft_3.below aW)).ii ta tn tc bs (hT.below q)) ((fun e W' h => by have h1 := h.1; rw [htq] at h1; exact ⟨_, h1, h.2, rfl⟩)),
  fun f s W g l m n p a => opv rfl rfl (by simp [go_sem, a.e 62 (l 8 rfl)]) rfl, trivial⟩ ?_
    intro f13 s13 W13 hB13 g13 hg13
    have fB13 := hB13.f fB12
    have z13 := hB13.below.size
    have fA13 := hB13.f fA12
    obtain ⟨r13_3, br13_3⟩ := hB13.is 3
    have lr13_3 := hB13.lr 3 br13_3
    obtain ⟨r13_4, br13_4⟩ := hB13.is 4
    have lr13_4 := hB13.lr 4 br13_4
    have ne13_3_4 := hB13.nb 3 4
    refine wpOps_end ?_
    have k13_1 := kt hg13 1 k12_1
    have k13_4 := kt hg13 4 k12_4
    have k13_5 := kt hg13 5 k12_5
    have k13_6 := kt hg13 6 k12_6
    have k13_7 := kt hg13 7 k12_7
    have k13_11 := kt hg13 11 k12_11
    have k13_13 := kt hg13 13 k12_13
    have k13_51 := kt hg13 51 k12_51
    have k13_14 := kt hg13 14 (hB13.is 9)
    exact J101' _ _ ⟨tq, k13_1, k13_4, k13_5, k13_6, k13_7, k13_11, k13_13.trans (by rfl), k13_51.trans (by rfl), k13_14.trans (by rfl), fB13, (by omega), fA13, ⟨htq1, htq2⟩, (fun h => absurd h (by decide)), (fun h => absurd h (by decide))⟩
   ·
    as_aux_lemma =>
    refine region_dk 10 [(54, 0), (55, 1), (56, 2), (57, 3), (58, 4), (59, 5), (60, 6), (61, 7), (62, 8), (14, 9)] [[], [], [], [], [], [2, 3, 4], [], [2, 3, 4, 5, 6], [0, 1, 2, 3, 4, 5, 6, 7], [0, 1, 2, 3, 4, 5, 6, 7, 8]] (rel [is (.agg #[.slice (some ⟨g1', 0, none⟩) (3) (c3'), .slice (some ⟨g2', 0, none⟩) (2) (c4')]),
   is (.agg #[.slice (some ⟨g7', 0, none⟩) (3) (c9'), .slice (some ⟨g8', 0, none⟩) (1) (c10')]),
   is (.slice (ta) (tn) (tc)),
   row 3 1 #[.int .u8 0] 5,
   row 4 1 #[.int .u8 255] 5,
   isS fun s => .agg #[.slice (ta) (tn) (tc), .slice (some ⟨(s 3), 0, none⟩) (1) (1), .slice (some ⟨(s 4), 0, none⟩) (1) (1)],
   is (.int .i64 1),
   isS fun s => .slice (some ⟨(s 3), 0, none⟩) (1) (1),
   is (.int .i64 ka),
   is (.int .i64 ka)])
     ⟨is_k, is_k, is_k, row_k, row_k, isS_k fun s s' e => by rw [e 3 (by simp), e 4 (by simp)], is_k, isS_k fun s s' e => by rw [e 3 (by simp)], is_k, is_k, trivial⟩
     ⟨fun f s W g l m n p a => by have aW := below_trans fA12 g; exact opv rfl rfl (by simp [go_sem, a.e 5 k12_5, cb bl_1 aW 0, cb bl_1 aW 1]) rfl,
  fun f s W g l m n p a => by have aW := below_trans fA12 g; exact opv rfl rfl (by simp [go_sem, a.e 6 k12_6, cb bl_2 aW 0, cb bl_2 aW 1]) rfl,
  fun f s W g l m n p a => opv rfl rfl (by simp [go_sem, a.e 1 k12_1]) rfl,
  fun f s W g l m n p a => opr rfl rfl (by simp [go_sem]),
  fun f s W g l m n p a => opr rfl rfl (by simp [go_sem]),
  fun f s W g l m n p a => opv rfl rfl (by simp [go_sem, a.e 56 (l 2 rfl), a.e 57 (l 3 rfl).1, a.e 58 (l 4 rfl).1, upd]) rfl,
  fun f s W g l m n p a => opv rfl rfl (by simp [go_sem, a.e 13 k12_13]) rfl,
  fun f s W g l m n p a => by have ix_ : ∀ W : World, (Instr.index 61 (.agg #[.slice (ta) (tn) (tc), .slice (some ⟨(s 3), 0, none⟩) (1) (1), .slice (some ⟨(s 4), 0, none⟩) (1) (1)]) (.int .i64 1)).run Try.prog W = .ok (.slice (some ⟨(s 3), 0, none⟩) (1) (1)) W := fun W => (by kernel_rfl); exact opv rfl rfl (by simp [go_sem, a.e 59 (l 5 rfl), a.e 60 (l 6 rfl), ix_, upd]) rfl,
  fun f s W g l m n p a => by have aW := below_trans fA12 g; exact opDo_call (args := #[.agg #[.slice (some ⟨g1', 0, none⟩) (3) (c3'), .slice (some ⟨g2', 0, none⟩) (2) (c4')], .agg #[.slice (some ⟨g7', 0, none⟩) (3) (c9'), .slice (some ⟨g8', 0, none⟩) (1) (c10')], .slice (some ⟨(s 3), 0, none⟩) (1) (1)]) rfl rfl (by simp [go_sem, a.e 54 (l 0 rfl), a.e 55 (l 1 rfl), a.e 61 (l 7 rfl)]) (caliper_s hI (g1') c3' (g2') c4' (g7') c9' (g8') c10' W ((ft_0.below aW)).PaR3 ((ft_1.below aW)).FuR2 ((ft_2.below aW)).ii ((ft_3.below aW)).ii (some ⟨(s 3), 0, none⟩) 1 1 (fun _ => 0) (byV_row (l 3 rfl).2 (by decide))) ((fun e W' h => by have h1 := h.1; rw [cal1_0, hka] at h1; exact ⟨_, h1, h.2, rfl⟩)),
  fun f s W g l m n p a => opv rfl rfl (by simp [go_sem, a.e 62 (l 8 rfl)]) rfl, trivial⟩ ?_
    intro f14 s14 W14 hB14 g14 hg14
    have fB14 := hB14.f fB12
    have z14 := hB14.below.size
    have fA14 := hB14.f fA12
    obtain ⟨r14_3, br14_3⟩ := hB14.is 3
    have lr14_3 := hB14.lr 3 br14_3
    obtain ⟨r14_4, br14_4⟩ := hB14.is 4
    have lr14_4 := hB14.lr 4 br14_4
    have ne14_3_4 := hB14.nb 3 4
    refine wpOps_end ?_
    have k14_1 := kt hg14 1 k12_1
    have k14_4 := kt hg14 4 k12_4
    have k14_5 := kt hg14 5 k12_5
    have k14_6 := kt hg14 6 k12_6
    have k14_7 := kt hg14 7 k12_7
    have k14_11 := kt hg14 11 k12_11
    have k14_13 := kt hg14 13 k12_13
    have k14_51 := kt hg14 51 k12_51
    have k14_14 := kt hg14 14 (hB14.is 9)
    exact J101' _ _ ⟨ka, k14_1, k14_4, k14_5, k14_6, k14_7, k14_11, k14_13.trans (by rfl), k14_51.trans (by rfl), k14_14.trans (by rfl), fB14, (by omega), fA14, ⟨Int.le_refl _, j2⟩, (fun _ => rfl), (fun h => absurd h (by decide))⟩
   ·
    as_aux_lemma =>
    refine region_dk 10 [(54, 0), (55, 1), (56, 2), (57, 3), (58, 4), (59, 5), (60, 6), (61, 7), (62, 8), (14, 9)] [[], [], [], [], [], [2, 3, 4], [], [2, 3, 4, 5, 6], [0, 1, 2, 3, 4, 5, 6, 7], [0, 1, 2, 3, 4, 5, 6, 7, 8]] (rel [is (.agg #[.slice (some ⟨g1', 0, none⟩) (3) (c3'), .slice (some ⟨g2', 0, none⟩) (2) (c4')]),
   is (.agg #[.slice (some ⟨g7', 0, none⟩) (3) (c9'), .slice (some ⟨g8', 0, none⟩) (1) (c10')]),
   is (.slice (ta) (tn) (tc)),
   row 3 1 #[.int .u8 0] 5,
   row 4 1 #[.int .u8 255] 5,
   isS fun s => .agg #[.slice (ta) (tn) (tc), .slice (some ⟨(s 3), 0, none⟩) (1) (1), .slice (some ⟨(s 4), 0, none⟩) (1) (1)],
   is (.int .i64 2),
   isS fun s => .slice (some ⟨(s 4), 0, none⟩) (1) (1),
   is (.int .i64 kb),
   is (.int .i64 kb)])
     ⟨is_k, is_k, is_k, row_k, row_k, isS_k fun s s' e => by rw [e 3 (by simp), e 4 (by simp)], is_k, isS_k fun s s' e => by rw [e 4 (by simp)], is_k, is_k, trivial⟩
     ⟨fun f s W g l m n p a => by have aW := below_trans fA12 g; exact opv rfl rfl (by simp [go_sem, a.e 5 k12_5, cb bl_1 aW 0, cb bl_1 aW 1]) rfl,
  fun f s W g l m n p a => by have aW := below_trans fA12 g; exact opv rfl rfl (by simp [go_sem, a.e 6 k12_6, cb bl_2 aW 0, cb bl_2 aW 1]) rfl,
  fun f s W g l m n p a => opv rfl rfl (by simp [go_sem, a.e 1 k12_1]) rfl,
  fun f s W g l m n p a => opr rfl rfl (by simp [go_sem]),
  fun f s W g l m n p a => opr rfl rfl (by simp [go_sem]),
  fun f s W g l m n p a => opv rfl rfl (by simp [go_sem, a.e 56 (l 2 rfl), a.e 57 (l 3 rfl).1, a.e 58 (l 4 rfl).1, upd]) rfl,
  fun f s W g l m n p a => opv rfl rfl (by simp [go_sem, a.e 13 k12_13]) rfl,
  fun f s W g l m n p a => by have ix_ : ∀ W : World, (Instr.index 61 (.agg #[.slice (ta) (tn) (tc), .slice (some ⟨(s 3), 0, none⟩) (1) (1), .slice (some ⟨(s 4), 0, none⟩) (1) (1)]) (.int .i64 2)).run Try.prog W = .ok (.slice (some ⟨(s 4), 0, none⟩) (1) (1)) W := fun W => (by kernel_rfl); exact opv rfl rfl (by simp [go_sem, a.e 59 (l 5 rfl), a.e 60 (l 6 rfl), ix_, upd]) rfl,
  fun f s W g l m n p a => by have aW := below_trans fA12 g; exact opDo_call (args := #[.agg #[.slice (some ⟨g1', 0, none⟩) (3) (c3'), .slice (some ⟨g2', 0, none⟩) (2) (c4')], .agg #[.slice (some ⟨g7', 0, none⟩) (3) (c9'), .slice (some ⟨g8', 0, none⟩) (1) (c10')], .slice (some ⟨(s 4), 0, none⟩) (1) (1)]) rfl rfl (by simp [go_sem, a.e 54 (l 0 rfl), a.e 55 (l 1 rfl), a.e 61 (l 7 rfl)]) (caliper_s hI (g1') c3' (g2') c4' (g7') c9' (g8') c10' W ((ft_0.below aW)).PaR3 ((ft_1.below aW)).FuR2 ((ft_2.below aW)).ii ((ft_3.below aW)).ii (some ⟨(s 4), 0, none⟩) 1 1 (fun _ => 255) (byV_row (l 4 rfl).2 (by decide))) ((fun e W' h => by have h1 := h.1; rw [cal1_255, hkb] at h1; exact ⟨_, h1, h.2, rfl⟩)),
  fun f s W g l m n p a => opv rfl rfl (by simp [go_sem, a.e 62 (l 8 rfl)]) rfl, trivial⟩ ?_
    intro f15 s15 W15 hB15 g15 hg15
    have fB15 := hB15.f fB12
    have z15 := hB15.below.size
    have fA15 := hB15.f fA12
    obtain ⟨r15_3, br15_3⟩ := hB15.is 3
    have lr15_3 := hB15.lr 3 br15_3
    obtain ⟨r15_4, br15_4⟩ := hB15.is 4
    have lr15_4 := hB15.lr 4 br15_4
    have ne15_3_4 := hB15.nb 3 4
    refine wpOps_end ?_
    have k15_1 := kt hg15 1 k12_1
    have k15_4 := kt hg15 4 k12_4
    have k15_5 := kt hg15 5 k12_5
    have k15_6 := kt hg15 6 k12_6
    have k15_7 := kt hg15 7 k12_7
    have k15_11 := kt hg15 11 k12_11
    have k15_13 := kt hg15 13 k12_13
    have k15_51 := kt hg15 51 k12_51
    have k15_14 := kt hg15 14 (hB15.is 9)
    exact J101' _ _ ⟨kb, k15_1, k15_4, k15_5, k15_6, k15_7, k15_11, k15_13.trans (by rfl), k15_51.trans (by rfl), k15_14.trans (by rfl), fB15, (by omega), fA15, ⟨j2, Int.le_refl _⟩, (fun h => absurd h (by decide)), (fun _ => rfl)⟩
  rintro g_102 W_102 ⟨tz, k_102_1, k_102_4, k_102_5, k_102_6, k_102_7, k_102_11, k_102_13, k_102_51, k_102_14, fB_102, z_102, fA_102, jp_0, jp_1, jp_2⟩
  refine hK14 _ _ ?_
  refine wp_seq_k fun K15 hK15 => ?_
  as_aux_lemma =>
  refine region_dk 3 [(63, 0), (64, 1), (15, 2)] [[], [0], [0, 1]] (rel [is (.pointer (some ⟨bk2, 1, none⟩)),
   is (.slice (some ⟨g13', 0, none⟩) (4) (c16')),
   is (.slice (some ⟨g13', 0, none⟩) (4) (c16'))])
   ⟨is_k, is_k, is_k, trivial⟩
   ⟨fun f s W g l m n p a => opv rfl rfl (by simp [go_sem, a.e 7 k_102_7]) rfl,
  fun f s W g l m n p a => by have aW := below_trans fA_102 g; exact opv rfl rfl (by simp [go_sem, a.e 63 (l 0 rfl), cb bl_3 aW 1]) rfl,
  fun f s W g l m n p a => opv rfl rfl (by simp [go_sem, a.e 64 (l 1 rfl)]) rfl, trivial⟩ ?_
  intro f16 s16 W16 hB16 g16 hg16
  have fB16 := hB16.f fB_102
  have z16 := hB16.below.size
  have fA16 := hB16.f fA_102
  refine hK15 _ _ ?_
  have k16_1 := kt hg16 1 k_102_1
  have k16_4 := kt hg16 4 k_102_4
  have k16_5 := kt hg16 5 k_102_5
  have k16_6 := kt hg16 6 k_102_6
  have k16_7 := kt hg16 7 k_102_7
  have k16_11 := kt hg16 11 k_102_11
  have k16_13 := kt hg16 13 k_102_13
  have k16_14 := kt hg16 14 k_102_14
  have k16_15 := kt hg16 15 (hB16.is 2)
  refine wp_seq_k fun K16 hK16 => ?_
  as_aux_lemma =>
  refine region_dk 80 [(65, 0), (66, 1), (67, 2), (68, 3), (69, 4), (70, 5), (71, 6), (72, 7), (73, 8), (74, 9), (75, 10), (76, 11), (77, 12), (78, 13), (79, 14), (80, 15), (81, 16), (82, 17), (83, 18), (84, 19), (85, 20), (86, 21), (87, 22), (88, 23), (89, 24), (90, 25), (91, 26), (92, 27), (93, 28), (94, 29), (95, 30), (96, 31), (97, 32), (98, 33), (99, 34), (100, 35), (101, 36), (102, 37), (103, 38), (104, 39), (105, 40), (106, 41), (107, 42), (108, 43), (109, 44), (110, 45), (111, 46), (112, 47), (113, 48), (114, 49), (115, 50), (116, 51), (117, 52), (118, 53), (119, 54), (120, 55), (121, 56), (122, 57), (123, 58), (124, 59), (125, 60), (126, 61), (127, 62), (128, 63), (129, 64), (130, 65), (131, 66), (132, 67), (133, 68), (134, 69), (135, 70), (136, 71), (137, 72), (138, 73), (139, 74), (140, 75), (141, 76), (142, 77), (143, 78), (16, 79)] [[], [0], [0, 1], [0, 1, 2], [], [0, 1, 2, 3, 4], [], [6], [6, 7], [6, 7, 8], [], [6, 7, 8, 9, 10], [], [12], [12, 13], [12, 13, 14], [], [12, 13, 14, 15, 16], [], [18], [18, 19], [18, 19, 20], [], [18, 19, 20, 21, 22], [], [24], [24, 25], [], [27], [24, 25, 26, 27, 28], [], [30], [30, 31], [30, 31, 32], [], [30, 31, 32, 33, 34], [], [36], [36, 37], [36, 37, 38], [36, 37, 38, 39], [30, 31, 32, 33, 34, 35, 36, 37, 38, 39, 40], [], [42], [42, 43], [42, 43, 44], [], [42, 43, 44, 45, 46], [], [48], [48, 49], [48, 49, 50], [48, 49, 50, 51], [42, 43, 44, 45, 46, 47, 48, 49, 50, 51, 52], [], [54], [54, 55], [54, 55, 56], [], [54, 55, 56, 57, 58], [], [60], [60, 61], [60, 61, 62], [60, 61, 62, 63], [54, 55, 56, 57, 58, 59, 60, 61, 62, 63, 64], [], [66], [66, 67], [66, 67, 68], [], [66, 67, 68, 69, 70], [], [72], [72, 73], [72, 73, 74], [72, 73, 74, 75], [66, 67, 68, 69, 70, 71, 72, 73, 74, 75, 76], [0, 1, 2, 3, 4, 5, 6, 7, 8, 9, 10, 11, 12, 13, 14, 15, 16, 17, 18, 19, 20, 21, 22, 23, 24, 25, 26, 27, 28, 29, 30, 31, 32, 33, 34, 35, 36, 37, 38, 39, 40, 41, 42, 43, 44, 45, 46, 47, 48, 49, 50, 51, 52, 53, 54, 55, 56, 57, 58, 59, 60, 61, 62, 63, 64, 65, 66, 67, 68, 69, 70, 71, 72, 73, 74, 75, 76, 77], [], [0, 1, 2, 3, 4, 5, 6, 7, 8, 9, 10, 11, 12, 13, 14, 15, 16, 17, 18, 19, 20, 21, 22, 23, 24, 25, 26, 27, 28, 29, 30, 31, 32, 33, 34, 35, 36, 37, 38, 39, 40, 41, 42, 43, 44, 45, 46, 47, 48, 49, 50, 51, 52, 53, 54, 55, 56, 57, 58, 59, 60, 61, 62, 63, 64, 65, 66, 67, 68, 69, 70, 71, 72, 73, 74, 75, 76, 77, 78, 79]] (rel [is (.slice (some ⟨g13', 0, none⟩) (4) (c16')),
   is (.pointer (some ⟨g13', 0, none⟩)),
   is (.int .i64 lg),
   is (.int .i64 (1000 * lg)),
   is (.int .i64 tz),
   is (.int .i64 ((1000 * lg) - tz)),
   is (.slice (some ⟨g13', 0, none⟩) (4) (c16')),
   is (.pointer (some ⟨g13', 1, none⟩)),
   is (.int .i64 wd),
   is (.int .i64 (1000 * wd)),
   is (.int .i64 tz),
   is (.int .i64 ((1000 * wd) - tz)),
   is (.slice (some ⟨g13', 0, none⟩) (4) (c16')),
   is (.pointer (some ⟨g13', 2, none⟩)),
   is (.int .i64 lg),
   is (.int .i64 (1000 * lg)),
   is (.int .i64 tz),
   is (.int .i64 ((1000 * lg) - tz)),
   is (.slice (some ⟨g13', 0, none⟩) (4) (c16')),
   is (.pointer (some ⟨g13', 3, none⟩)),
   is (.int .i64 wd),
   is (.int .i64 (1000 * wd)),
   is (.int .i64 tz),
   is (.int .i64 ((1000 * wd) - tz)),
   is (.pointer (some ⟨bk2, 2, none⟩)),
   is (.int .i64 hh),
   is (.int .i64 (1000 * hh)),
   is (.int .i64 tz),
   is (.int .i64 (2 * tz)),
   is (.int .i64 ((1000 * hh) - (2 * tz))),
   is (.slice (some ⟨g13', 0, none⟩) (4) (c16')),
   is (.pointer (some ⟨g13', 1, none⟩)),
   is (.int .i64 wd),
   is (.int .i64 (1000 * wd)),
   is (.int .i64 tz),
   is (.int .i64 ((1000 * wd) - tz)),
   is (.pointer (some ⟨bk2, 3, none⟩)),
   is (.slice (some ⟨g14', 0, none⟩) (2) (c17')),
   is (.pointer (some ⟨g14', 0, none⟩)),
   is (.int .i64 fp),
   is (.int .i64 (2000 * fp)),
   is (.int .i64 (((1000 * wd) - tz) - (2000 * fp))),
   is (.slice (some ⟨g13', 0, none⟩) (4) (c16')),
   is (.pointer (some ⟨g13', 0, none⟩)),
   is (.int .i64 lg),
   is (.int .i64 (1000 * lg)),
   is (.int .i64 tz),
   is (.int .i64 ((1000 * lg) - tz)),
   is (.pointer (some ⟨bk2, 3, none⟩)),
   is (.slice (some ⟨g14', 0, none⟩) (2) (c17')),
   is (.pointer (some ⟨g14', 1, none⟩)),
   is (.int .i64 fp),
   is (.int .i64 (2000 * fp)),
   is (.int .i64 (((1000 * lg) - tz) - (2000 * fp))),
   is (.slice (some ⟨g13', 0, none⟩) (4) (c16')),
   is (.pointer (some ⟨g13', 1, none⟩)),
   is (.int .i64 wd),
   is (.int .i64 (1000 * wd)),
   is (.int .i64 tz),
   is (.int .i64 ((1000 * wd) - tz)),
   is (.pointer (some ⟨bk2, 4, none⟩)),
   is (.slice (some ⟨g15', 0, none⟩) (2) (c18')),
   is (.pointer (some ⟨g15', 0, none⟩)),
   is (.int .i64 fp),
   is (.int .i64 (2000 * fp)),
   is (.int .i64 (((1000 * wd) - tz) - (2000 * fp))),
   is (.slice (some ⟨g13', 0, none⟩) (4) (c16')),
   is (.pointer (some ⟨g13', 0, none⟩)),
   is (.int .i64 lg),
   is (.int .i64 (1000 * lg)),
   is (.int .i64 tz),
   is (.int .i64 ((1000 * lg) - tz)),
   is (.pointer (some ⟨bk2, 4, none⟩)),
   is (.slice (some ⟨g15', 0, none⟩) (2) (c18')),
   is (.pointer (some ⟨g15', 1, none⟩)),
   is (.int .i64 fq),
   is (.int .i64 (2000 * fq)),
   is (.int .i64 (((1000 * lg) - tz) - (2000 * fq))),
   is (.agg #[.int .i64 ((1000 * lg) - tz), .int .i64 ((1000 * wd) - tz), .int .i64 ((1000 * lg) - tz), .int .i64 ((1000 * wd) - tz), .int .i64 ((1000 * hh) - (2 * tz)), .int .i64 (((1000 * wd) - tz) - (2000 * fp)), .int .i64 (((1000 * lg) - tz) - (2000 * fp)), .int .i64 (((1000 * wd) - tz) - (2000 * fp)), .int .i64 (((1000 * lg) - tz) - (2000 * fq))]),
   bx 79 #[.int .i64 0, .int .i64 0, .int .i64 0, .int .i64 0, .int .i64 0, .int .i64 0, .int .i64 0, .int .i64 0, .int .i64 0] 62])
   ⟨is_k, is_k, is_k, is_k, is_k, is_k, is_k, is_k, is_k, is_k, is_k, is_k, is_k, is_k, is_k, is_k, is_k, is_k, is_k, is_k, is_k, is_k, is_k, is_k, is_k, is_k, is_k, is_k, is_k, is_k, is_k, is_k, is_k, is_k, is_k, is_k, is_k, is_k, is_k, is_k, is_k, is_k, is_k, is_k, is_k, is_k, is_k, is_k, is_k, is_k, is_k, is_k, is_k, is_k, is_k, is_k, is_k, is_k, is_k, is_k, is_k, is_k, is_k, is_k, is_k, is_k, is_k, is_k, is_k, is_k, is_k, is_k, is_k, is_k, is_k, is_k, is_k, is_k, is_k, bx_k, trivial⟩
   ⟨fun f s W g l m n p a => opv rfl rfl (by simp [go_sem, a.e 15 k16_15]) rfl,
  fun f s W g l m n p a => opv rfl rfl (by simp [go_sem, a.e 65 (l 0 rfl)]) rfl,
  fun f s W g l m n p a => by have aW := below_trans fA16 g; have u2_ : W.cell? ⟨g13', 0, none⟩ = some (.int .i64 (lg)) := (OwnI.cell ((ft_4.below aW)) (i := 0) (by simp)); exact opv rfl rfl (by simp [go_sem, a.e 66 (l 1 rfl), u2_]) rfl,
  fun f s W g l m n p a => opv rfl rfl (by simp [go_sem, a.e 67 (l 2 rfl), IntWalk.i64_in (1000 * lg) (by omega)]) rfl,
  fun f s W g l m n p a => opv rfl rfl (by simp [go_sem, a.e 14 k16_14]) rfl,
  fun f s W g l m n p a => opv rfl rfl (by simp [go_sem, a.e 68 (l 3 rfl), a.e 69 (l 4 rfl), IntWalk.i64_in ((1000 * lg) - tz) (by omega)]) rfl,
  fun f s W g l m n p a => opv rfl rfl (by simp [go_sem, a.e 15 k16_15]) rfl,
  fun f s W g l m n p a => opv rfl rfl (by simp [go_sem, a.e 71 (l 6 rfl)]) rfl,
  fun f s W g l m n p a => by have aW := below_trans fA16 g; have u8_ : W.cell? ⟨g13', 1, none⟩ = some (.int .i64 (wd)) := (OwnI.cell ((ft_4.below aW)) (i := 1) (by simp)); exact opv rfl rfl (by simp [go_sem, a.e 72 (l 7 rfl), u8_]) rfl,
  fun f s W g l m n p a => opv rfl rfl (by simp [go_sem, a.e 73 (l 8 rfl), IntWalk.i64_in (1000 * wd) (by omega)]) rfl,
  fun f s W g l m n p a => opv rfl rfl (by simp [go_sem, a.e 14 k16_14]) rfl,
  fun f s W g l m n p a => opv rfl rfl (by simp [go_sem, a.e 74 (l 9 rfl), a.e 75 (l 10 rfl), IntWalk.i64_in ((1000 * wd) - tz) (by omega)]) rfl,
  fun f s W g l m n p a => opv rfl rfl (by simp [go_sem, a.e 15 k16_15]) rfl,
  fun f s W g l m n p a => opv rfl rfl (by simp [go_sem, a.e 77 (l 12 rfl)]) rfl,
  fun f s W g l m n p a => by have aW := below_trans fA16 g; have u14_ : W.cell? ⟨g13', 2, none⟩ = some (.int .i64 (lg)) := (OwnI.cell ((ft_4.below aW)) (i := 2) (by simp)); exact opv rfl rfl (by simp [go_sem, a.e 78 (l 13 rfl), u14_]) rfl,
  fun f s W g l m n p a => opv rfl rfl (by simp [go_sem, a.e 79 (l 14 rfl), IntWalk.i64_in (1000 * lg) (by omega)]) rfl,
  fun f s W g l m n p a => opv rfl rfl (by simp [go_sem, a.e 14 k16_14]) rfl,
  fun f s W g l m n p a => opv rfl rfl (by simp [go_sem, a.e 80 (l 15 rfl), a.e 81 (l 16 rfl), IntWalk.i64_in ((1000 * lg) - tz) (by omega)]) rfl,
  fun f s W g l m n p a => opv rfl rfl (by simp [go_sem, a.e 15 k16_15]) rfl,
  fun f s W g l m n p a => opv rfl rfl (by simp [go_sem, a.e 83 (l 18 rfl)]) rfl,
  fun f s W g l m n p a => by have aW := below_trans fA16 g; have u20_ : W.cell? ⟨g13', 3, none⟩ = some (.int .i64 (wd)) := (OwnI.cell ((ft_4.below aW)) (i := 3) (by simp)); exact opv rfl rfl (by simp [go_sem, a.e 84 (l 19 rfl), u20_]) rfl,
  fun f s W g l m n p a => opv rfl rfl (by simp [go_sem, a.e 85 (l 20 rfl), IntWalk.i64_in (1000 * wd) (by omega)]) rfl,
  fun f s W g l m n p a => opv rfl rfl (by simp [go_sem, a.e 14 k16_14]) rfl,
  fun f s W g l m n p a => opv rfl rfl (by simp [go_sem, a.e 86 (l 21 rfl), a.e 87 (l 22 rfl), IntWalk.i64_in ((1000 * wd) - tz) (by omega)]) rfl,
  fun f s W g l m n p a => opv rfl rfl (by simp [go_sem, a.e 7 k16_7]) rfl,
  fun f s W g l m n p a => by have aW := below_trans fA16 g; exact opv rfl rfl (by simp [go_sem, a.e 89 (l 24 rfl), cb bl_3 aW 2]) rfl,
  fun f s W g l m n p a => opv rfl rfl (by simp [go_sem, a.e 90 (l 25 rfl), IntWalk.i64_in (1000 * hh) (by omega)]) rfl,
  fun f s W g l m n p a => opv rfl rfl (by simp [go_sem, a.e 14 k16_14]) rfl,
  fun f s W g l m n p a => opv rfl rfl (by simp [go_sem, a.e 92 (l 27 rfl), IntWalk.i64_in (2 * tz) (by omega)]) rfl,
  fun f s W g l m n p a => opv rfl rfl (by simp [go_sem, a.e 91 (l 26 rfl), a.e 93 (l 28 rfl), IntWalk.i64_in ((1000 * hh) - (2 * tz)) (by omega)]) rfl,
  fun f s W g l m n p a => opv rfl rfl (by simp [go_sem, a.e 15 k16_15]) rfl,
  fun f s W g l m n p a => opv rfl rfl (by simp [go_sem, a.e 95 (l 30 rfl)]) rfl,
  fun f s W g l m n p a => by have aW := below_trans fA16 g; have u32_ : W.cell? ⟨g13', 1, none⟩ = some (.int .i64 (wd)) := (OwnI.cell ((ft_4.below aW)) (i := 1) (by simp)); exact opv rfl rfl (by simp [go_sem, a.e 96 (l 31 rfl), u32_]) rfl,
  fun f s W g l m n p a => opv rfl rfl (by simp [go_sem, a.e 97 (l 32 rfl), IntWalk.i64_in (1000 * wd) (by omega)]) rfl,
  fun f s W g l m n p a => opv rfl rfl (by simp [go_sem, a.e 14 k16_14]) rfl,
  fun f s W g l m n p a => opv rfl rfl (by simp [go_sem, a.e 98 (l 33 rfl), a.e 99 (l 34 rfl), IntWalk.i64_in ((1000 * wd) - tz) (by omega)]) rfl,
  fun f s W g l m n p a => opv rfl rfl (by simp [go_sem, a.e 7 k16_7]) rfl,
  fun f s W g l m n p a => by have aW := below_trans fA16 g; exact opv rfl rfl (by simp [go_sem, a.e 101 (l 36 rfl), cb bl_3 aW 3]) rfl,
  fun f s W g l m n p a => opv rfl rfl (by simp [go_sem, a.e 102 (l 37 rfl)]) rfl,
  fun f s W g l m n p a => by have aW := below_trans fA16 g; have u39_ : W.cell? ⟨g14', 0, none⟩ = some (.int .i64 (fp)) := (OwnI.cell ((ft_5.below aW)) (i := 0) (by simp)); exact opv rfl rfl (by simp [go_sem, a.e 103 (l 38 rfl), u39_]) rfl,
  fun f s W g l m n p a => opv rfl rfl (by simp [go_sem, a.e 104 (l 39 rfl), IntWalk.i64_in (2000 * fp) (by omega)]) rfl,
  fun f s W g l m n p a => opv rfl rfl (by simp [go_sem, a.e 100 (l 35 rfl), a.e 105 (l 40 rfl), IntWalk.i64_in (((1000 * wd) - tz) - (2000 * fp)) (by omega)]) rfl,
  fun f s W g l m n p a => opv rfl rfl (by simp [go_sem, a.e 15 k16_15]) rfl,
  fun f s W g l m n p a => opv rfl rfl (by simp [go_sem, a.e 107 (l 42 rfl)]) rfl,
  fun f s W g l m n p a => by have aW := below_trans fA16 g; have u44_ : W.cell? ⟨g13', 0, none⟩ = some (.int .i64 (lg)) := (OwnI.cell ((ft_4.below aW)) (i := 0) (by simp)); exact opv rfl rfl (by simp [go_sem, a.e 108 (l 43 rfl), u44_]) rfl,
  fun f s W g l m n p a => opv rfl rfl (by simp [go_sem, a.e 109 (l 44 rfl), IntWalk.i64_in (1000 * lg) (by omega)]) rfl,
  fun f s W g l m n p a => opv rfl rfl (by simp [go_sem, a.e 14 k16_14]) rfl,
  fun f s W g l m n p a => opv rfl rfl (by simp [go_sem, a.e 110 (l 45 rfl), a.e 111 (l 46 rfl), IntWalk.i64_in ((1000 * lg) - tz) (by omega)]) rfl,
  fun f s W g l m n p a => opv rfl rfl (by simp [go_sem, a.e 7 k16_7]) rfl,
  fun f s W g l m n p a => by have aW := below_trans fA16 g; exact opv rfl rfl (by simp [go_sem, a.e 113 (l 48 rfl), cb bl_3 aW 3]) rfl,
  fun f s W g l m n p a => opv rfl rfl (by simp [go_sem, a.e 114 (l 49 rfl)]) rfl,
  fun f s W g l m n p a => by have aW := below_trans fA16 g; have u51_ : W.cell? ⟨g14', 1, none⟩ = some (.int .i64 (fp)) := (OwnI.cell ((ft_5.below aW)) (i := 1) (by simp)); exact opv rfl rfl (by simp [go_sem, a.e 115 (l 50 rfl), u51_]) rfl,
  fun f s W g l m n p a => opv rfl rfl (by simp [go_sem, a.e 116 (l 51 rfl), IntWalk.i64_in (2000 * fp) (by omega)]) rfl,
  fun f s W g l m n p a => opv rfl rfl (by simp [go_sem, a.e 112 (l 47 rfl), a.e 117 (l 52 rfl), IntWalk.i64_in (((1000 * lg) - tz) - (2000 * fp)) (by omega)]) rfl,
  fun f s W g l m n p a => opv rfl rfl (by simp [go_sem, a.e 15 k16_15]) rfl,
  fun f s W g l m n p a => opv rfl rfl (by simp [go_sem, a.e 119 (l 54 rfl)]) rfl,
  fun f s W g l m n p a => by have aW := below_trans fA16 g; have u56_ : W.cell? ⟨g13', 1, none⟩ = some (.int .i64 (wd)) := (OwnI.cell ((ft_4.below aW)) (i := 1) (by simp)); exact opv rfl rfl (by simp [go_sem, a.e 120 (l 55 rfl), u56_]) rfl,
  fun f s W g l m n p a => opv rfl rfl (by simp [go_sem, a.e 121 (l 56 rfl), IntWalk.i64_in (1000 * wd) (by omega)]) rfl,
  fun f s W g l m n p a => opv rfl rfl (by simp [go_sem, a.e 14 k16_14]) rfl,
  fun f s W g l m n p a => opv rfl rfl (by simp [go_sem, a.e 122 (l 57 rfl), a.e 123 (l 58 rfl), IntWalk.i64_in ((1000 * wd) - tz) (by omega)]) rfl,
  fun f s W g l m n p a => opv rfl rfl (by simp [go_sem, a.e 7 k16_7]) rfl,
  fun f s W g l m n p a => by have aW := below_trans fA16 g; exact opv rfl rfl (by simp [go_sem, a.e 125 (l 60 rfl), cb bl_3 aW 4]) rfl,
  fun f s W g l m n p a => opv rfl rfl (by simp [go_sem, a.e 126 (l 61 rfl)]) rfl,
  fun f s W g l m n p a => by have aW := below_trans fA16 g; have u63_ : W.cell? ⟨g15', 0, none⟩ = some (.int .i64 (fp)) := (OwnI.cell ((ft_6.below aW)) (i := 0) (by simp)); exact opv rfl rfl (by simp [go_sem, a.e 127 (l 62 rfl), u63_]) rfl,
  fun f s W g l m n p a => opv rfl rfl (by simp [go_sem, a.e 128 (l 63 rfl), IntWalk.i64_in (2000 * fp) (by omega)]) rfl,
  fun f s W g l m n p a => opv rfl rfl (by simp [go_sem, a.e 124 (l 59 rfl), a.e 129 (l 64 rfl), IntWalk.i64_in (((1000 * wd) - tz) - (2000 * fp)) (by omega)]) rfl,
  fun f s W g l m n p a => opv rfl rfl (by simp [go_sem, a.e 15 k16_15]) rfl,
  fun f s W g l m n p a => opv rfl rfl (by simp [go_sem, a.e 131 (l 66 rfl)]) rfl,
  fun f s W g l m n p a => by have aW := below_trans fA16 g; have u68_ : W.cell? ⟨g13', 0, none⟩ = some (.int .i64 (lg)) := (OwnI.cell ((ft_4.below aW)) (i := 0) (by simp)); exact opv rfl rfl (by simp [go_sem, a.e 132 (l 67 rfl), u68_]) rfl,
  fun f s W g l m n p a => opv rfl rfl (by simp [go_sem, a.e 133 (l 68 rfl), IntWalk.i64_in (1000 * lg) (by omega)]) rfl,
  fun f s W g l m n p a => opv rfl rfl (by simp [go_sem, a.e 14 k16_14]) rfl,
  fun f s W g l m n p a => opv rfl rfl (by simp [go_sem, a.e 134 (l 69 rfl), a.e 135 (l 70 rfl), IntWalk.i64_in ((1000 * lg) - tz) (by omega)]) rfl,
  fun f s W g l m n p a => opv rfl rfl (by simp [go_sem, a.e 7 k16_7]) rfl,
  fun f s W g l m n p a => by have aW := below_trans fA16 g; exact opv rfl rfl (by simp [go_sem, a.e 137 (l 72 rfl), cb bl_3 aW 4]) rfl,
  fun f s W g l m n p a => opv rfl rfl (by simp [go_sem, a.e 138 (l 73 rfl)]) rfl,
  fun f s W g l m n p a => by have aW := below_trans fA16 g; have u75_ : W.cell? ⟨g15', 1, none⟩ = some (.int .i64 (fq)) := (OwnI.cell ((ft_6.below aW)) (i := 1) (by simp)); exact opv rfl rfl (by simp [go_sem, a.e 139 (l 74 rfl), u75_]) rfl,
  fun f s W g l m n p a => opv rfl rfl (by simp [go_sem, a.e 140 (l 75 rfl), IntWalk.i64_in (2000 * fq) (by omega)]) rfl,
  fun f s W g l m n p a => opv rfl rfl (by simp [go_sem, a.e 136 (l 71 rfl), a.e 141 (l 76 rfl), IntWalk.i64_in (((1000 * lg) - tz) - (2000 * fq)) (by omega)]) rfl,
  fun f s W g l m n p a => opv (v := (.agg #[.int .i64 ((1000 * lg) - tz), .int .i64 ((1000 * wd) - tz), .int .i64 ((1000 * lg) - tz), .int .i64 ((1000 * wd) - tz), .int .i64 ((1000 * hh) - (2 * tz)), .int .i64 (((1000 * wd) - tz) - (2000 * fp)), .int .i64 (((1000 * lg) - tz) - (2000 * fp)), .int .i64 (((1000 * wd) - tz) - (2000 * fp)), .int .i64 (((1000 * lg) - tz) - (2000 * fq))])) rfl rfl (build9_exec (a.v 70 (l 5 rfl)) (a.v 76 (l 11 rfl)) (a.v 82 (l 17 rfl)) (a.v 88 (l 23 rfl)) (a.v 94 (l 29 rfl)) (a.v 106 (l 41 rfl)) (a.v 118 (l 53 rfl)) (a.v 130 (l 65 rfl)) (a.v 142 (l 77 rfl))) rfl,
  fun f s W g l m n p a => opb rfl rfl (by simp [go_sem]), trivial⟩ ?_
  intro f17 s17 W17 hB17 g17 hg17
  have fB17 := hB17.f fB16
  have z17 := hB17.below.size
  have fA17 := hB17.f fA16
  obtain ⟨r17_79, br17_79⟩ := hB17.is 79
  have lr17_79 := hB17.lr 79 br17_79
  have k17_1 := kt hg17 1 k16_1
  have k17_4 := kt hg17 4 k16_4
  have k17_5 := kt hg17 5 k16_5
  have k17_6 := kt hg17 6 k16_6
  have k17_7 := kt hg17 7 k16_7
  have k17_11 := kt hg17 11 k16_11
  have k17_13 := kt hg17 13 k16_13
  have k17_143 := kt hg17 143 (hB17.is 78)
  have k17_16 := kt hg17 16 r17_79
  obtain ⟨W18, hW18⟩ : ∃ W', W' = W17.setRow (s17 79) #[.int .i64 ((1000 * lg) - tz), .int .i64 ((1000 * wd) - tz), .int .i64 ((1000 * lg) - tz), .int .i64 ((1000 * wd) - tz), .int .i64 ((1000 * hh) - (2 * tz)), .int .i64 (((1000 * wd) - tz) - (2000 * fp)), .int .i64 (((1000 * lg) - tz) - (2000 * fp)), .int .i64 (((1000 * wd) - tz) - (2000 * fp)), .int .i64 (((1000 * lg) - tz) - (2000 * fq))] := ⟨_, rfl⟩
  refine tail_skip (o := _) rfl ⟨rfl, rfl⟩ (run_seg hW18 (fr_ev k17_16) (fr_ev k17_143) br17_79 rfl rfl rfl rfl) ?_
  obtain ⟨fB18, nb18, ot18, z18⟩ := seg_facts hW18 fB17 br17_79 (by omega)
  have fA18 := (seg_facts hW18 fA17 br17_79 (by omega)).1
  clear hW18
  refine wpOps_end ?_
  refine hK16 _ _ ?_
  have nb_tz : W18.heap[(s17 79)]? = some (.cells #[.int .i64 ((mic b tz 0)), .int .i64 ((mic b tz 1)), .int .i64 ((mic b tz 2)), .int .i64 ((mic b tz 3)), .int .i64 ((mic b tz 4)), .int .i64 ((mic b tz 5)), .int .i64 ((mic b tz 6)), .int .i64 ((mic b tz 7)), .int .i64 ((mic b tz 8))] 62 (0, 0)) := by rw [← hb]; exact nb18
  refine wp_seq_k fun K17 hK17 => ?_
  as_aux_lemma =>
  refine region_dk 1 [(17, 0)] [[]] (rel [is (.int .i64 0)])
   ⟨is_k, trivial⟩
   ⟨fun f s W g l m n p a => opv rfl rfl (by simp [go_sem]) rfl, trivial⟩ ?_
  intro f19 s19 W19 hB19 g19 hg19
  have fB19 := hB19.f fB18
  have z19 := hB19.below.size
  have fA19 := hB19.f fA18
  have b19_6 := hB19.b nb_tz
  refine hK17 _ _ ?_
  have k19_1 := kt hg19 1 k17_1
  have k19_4 := kt hg19 4 k17_4
  have k19_5 := kt hg19 5 k17_5
  have k19_6 := kt hg19 6 k17_6
  have k19_7 := kt hg19 7 k17_7
  have k19_11 := kt hg19 11 k17_11
  have k19_13 := kt hg19 13 k17_13
  have k19_16 := kt hg19 16 k17_16
  have k19_17 := kt hg19 17 (hB19.is 0)
  refine wp_block ?_
  refine wp_loop_n (fun m_ a_ W_ => ∃ g_ : Nat → Value, a_ = fr 191 g_ ∧ (∃ j : Nat, m_ = 9 - j ∧ g_ 1 = .slice (ta) (tn) (tc) ∧ g_ 4 = .bool false ∧ g_ 5 = .pointer (some ⟨bk0, 0, none⟩) ∧ g_ 6 = .pointer (some ⟨bk1, 0, none⟩) ∧ g_ 7 = .pointer (some ⟨bk2, 0, none⟩) ∧ g_ 11 = .slice (a87') (L9.length) (c88') ∧ g_ 13 = .int .i64 ((k : Int)) ∧ g_ 16 = .pointer (some ⟨(s17 79), 0, none⟩) ∧ g_ 17 = .int .i64 ((j : Int)) ∧ Below w.heap.size w W_ ∧ W19.heap.size ≤ W_.heap.size ∧ Below Wc_.heap.size Wc_ W_ ∧ W_.heap[(s17 79)]? = some (.cells #[.int .i64 ((mic b tz 0)), .int .i64 ((mic b tz 1)), .int .i64 ((mic b tz 2)), .int .i64 ((mic b tz 3)), .int .i64 ((mic b tz 4)), .int .i64 ((mic b tz 5)), .int .i64 ((mic b tz 6)), .int .i64 ((mic b tz 7)), .int .i64 ((mic b tz 8))] 62 (0, 0)) ∧ (j ≤ 9))) ⟨_, g19, rfl, 0, rfl, k19_1, k19_4, k19_5, k19_6, k19_7, k19_11, k19_13, k19_16, k19_17.trans (by rfl), fB19, Nat.le_refl _, fA19, b19_6, (by omega)⟩ ?_
  rintro _ _ W_103 ⟨g_103, rfl, j, rfl, k_103_1, k_103_4, k_103_5, k_103_6, k_103_7, k_103_11, k_103_13, k_103_16, k_103_17, fB_103, z_103, fA_103, b_103_0, lp0⟩
  refine wp_seq_k fun K18 hK18 => ?_
  refine wp_seq_k fun K19 hK19 => ?_
  as_aux_lemma =>
  refine region_dk 2 [(144, 0), (145, 1)] [[], [0]] (rel [is (.int .i64 ((j : Int))),
   is (.bool (decide ((j : Int) < 9)))])
   ⟨is_k, is_k, trivial⟩
   ⟨fun f s W g l m n p a => opv rfl rfl (by simp [go_sem, a.e 17 k_103_17]) rfl,
  fun f s W g l m n p a => opv rfl rfl (by simp [go_sem, a.e 144 (l 0 rfl)]) rfl, trivial⟩ ?_
  intro f20 s20 W20 hB20 g20 hg20
  have fB20 := hB20.f fB_103
  have z20 := hB20.below.size
  have fA20 := hB20.f fA_103
  have b20_6 := hB20.b b_103_0
  refine hK19 _ _ ?_
  have k20_1 := kt hg20 1 k_103_1
  have k20_4 := kt hg20 4 k_103_4
  have k20_5 := kt hg20 5 k_103_5
  have k20_6 := kt hg20 6 k_103_6
  have k20_7 := kt hg20 7 k_103_7
  have k20_11 := kt hg20 11 k_103_11
  have k20_13 := kt hg20 13 k_103_13
  have k20_16 := kt hg20 16 k_103_16
  have k20_17 := kt hg20 17 k_103_17
  have k20_145 := kt hg20 145 (hB20.is 1)
  refine wp_cond_split (t := decide ((j : Int) < 9)) ((fr_eval rfl).trans k20_145) (fun hc20 => ?_) (fun hc20 => ?_)
  ·
   have hc20' := hc20; try simp only [ba] at hc20'
   have hj9 : j < 9 := by omega
   have hj9i : (j : Int) < 9 := by omega
   have lij := Nat.not_le.2 (show j < L9.length by omega)
   obtain ⟨bq, oq, hab⟩ := ft_7.at' (by omega)
   have hmm := hmic j tz hj9 jp_0.1 jp_0.2
   have hM1 : (k : Int) = 1 → ((mic b tz j) != ((nthP L9 j).2)) = false := fun e => bne_eq_false_iff_eq.2 (by rw [jp_1 (by omega)]; exact hml j hj9)
   have hM2 : (k : Int) = 2 → ((mic b tz j) != ((nthP L9 j).1)) = false := fun e => bne_eq_false_iff_eq.2 (by rw [jp_2 (by omega)]; exact hmh j hj9)
   have hma := decide_eq_true hmm.1
   have hmb := decide_eq_true hmm.2
   refine wp_skip ?_
   refine hK18 _ _ ?_
   refine wp_seq_k fun K21 hK21 => ?_
   refine wp_block ?_
   refine wp_seq_k fun K22 hK22 => ?_
   as_aux_lemma =>
   refine region_dk 39 [(148, 0), (149, 1), (150, 2), (151, 3), (152, 4), (153, 5), (154, 6), (155, 7), (156, 8), (157, 9), (158, 10), (159, 11), (160, 12), (161, 13), (162, 14), (163, 15), (164, 16), (165, 17), (166, 18), (167, 19), (168, 20), (169, 21), (170, 22), (171, 23), (172, 24), (173, 25), (174, 26), (175, 27), (176, 28), (177, 29), (178, 30), (179, 31), (180, 32), (181, 33), (182, 34), (183, 35), (184, 36), (185, 37), (186, 38)] [[], [], [0, 1], [0, 1, 2], [], [4], [4, 5], [0, 1, 2, 3, 4, 5, 6], [0, 1, 2, 3, 4, 5, 6, 7], [0, 1, 2, 3, 4, 5, 6, 7, 8], [0, 1, 2, 3, 4, 5, 6, 7, 8, 9], [0, 1, 2, 3, 4, 5, 6, 7, 8, 9, 10], [0, 1, 2, 3, 4, 5, 6, 7, 8, 9, 10, 11], [0, 1, 2, 3, 4, 5, 6, 7, 8, 9, 10, 11, 12], [0, 1, 2, 3, 4, 5, 6, 7, 8, 9, 10, 11, 12, 13], [0, 1, 2, 3, 4, 5, 6, 7, 8, 9, 10, 11, 12, 13, 14], [0, 1, 2, 3, 4, 5, 6, 7, 8, 9, 10, 11, 12], [0, 1, 2, 3, 4, 5, 6, 7, 8, 9, 10, 11, 12], [0, 1, 2, 3, 4, 5, 6, 7, 8, 9, 10, 11, 12, 16, 17], [0, 1, 2, 3, 4, 5, 6, 7, 8, 9, 10, 11, 12, 16, 17, 18], [0, 1, 2, 3, 4, 5, 6, 7, 8, 9, 10, 11, 12, 16, 17, 18, 19], [0, 1, 2, 3, 4, 5, 6, 7, 8, 9, 10, 11, 12, 13, 14, 15, 16, 17, 18, 19, 20], [0, 1, 2, 3, 4, 5, 6, 7, 8, 9, 10, 11, 12, 13, 14, 15, 16, 17, 18, 19, 20, 21], [0, 1, 2, 3, 4, 5, 6, 7, 8, 9, 10, 11, 12, 13, 14, 15, 16, 17, 18, 19, 20, 21, 22], [0, 1, 2, 3, 4, 5, 6, 7, 8, 9, 10, 11, 12, 13, 14, 15, 16, 17, 18, 19, 20, 21, 22, 23], [0, 1, 2, 3, 4, 5, 6, 7, 8, 9, 10, 11, 12, 13, 14, 15, 16, 17, 18, 19, 20, 21, 22, 23, 24], [0, 1, 2, 3, 4, 5, 6, 7, 8, 9, 10, 11, 12, 13, 14, 15, 16, 17, 18, 19, 20, 21, 22, 23, 24, 25], [0, 1, 2, 3, 4, 5, 6, 7, 8, 9, 10, 11, 12, 13, 14, 15, 16, 17, 18, 19, 20, 21, 22, 23, 24, 25, 26], [0, 1, 2, 3, 4, 5, 6, 7, 8, 9, 10, 11, 12, 13, 14, 15, 16, 17, 18, 19, 20, 21, 22, 23, 24, 25, 26, 27], [0, 1, 2, 3, 4, 5, 6, 7, 8, 9, 10, 11, 12, 13, 14, 15, 16, 17, 18, 19, 20, 21, 22, 23, 24, 25, 26, 27, 28], [0, 1, 2, 3, 4, 5, 6, 7, 8, 9, 10, 11, 12, 13, 14, 15, 16, 17, 18, 19, 20, 21, 22, 23, 24, 25, 26, 27, 28, 29], [0, 1, 2, 3, 4, 5, 6, 7, 8, 9, 10, 11, 12, 13, 14, 15, 16, 17, 18, 19, 20, 21, 22, 23, 24, 25, 26, 27], [0, 1, 2, 3, 4, 5, 6, 7, 8, 9, 10, 11, 12, 13, 14, 15, 16, 17, 18, 19, 20, 21, 22, 23, 24, 25, 26, 27], [0, 1, 2, 3, 4, 5, 6, 7, 8, 9, 10, 11, 12, 13, 14, 15, 16, 17, 18, 19, 20, 21, 22, 23, 24, 25, 26, 27, 31, 32], [0, 1, 2, 3, 4, 5, 6, 7, 8, 9, 10, 11, 12, 13, 14, 15, 16, 17, 18, 19, 20, 21, 22, 23, 24, 25, 26, 27, 31, 32, 33], [0, 1, 2, 3, 4, 5, 6, 7, 8, 9, 10, 11, 12, 13, 14, 15, 16, 17, 18, 19, 20, 21, 22, 23, 24, 25, 26, 27, 31, 32, 33, 34], [0, 1, 2, 3, 4, 5, 6, 7, 8, 9, 10, 11, 12, 13, 14, 15, 16, 17, 18, 19, 20, 21, 22, 23, 24, 25, 26, 27, 28, 29, 30, 31, 32, 33, 34, 35], [0, 1, 2, 3, 4, 5, 6, 7, 8, 9, 10, 11, 12, 13, 14, 15, 16, 17, 18, 19, 20, 21, 22, 23, 24, 25, 26, 27, 28, 29, 30, 31, 32, 33, 34, 35, 36], [0, 1, 2, 3, 4, 5, 6, 7, 8, 9, 10, 11, 12, 13, 14, 15, 16, 17, 18, 19, 20, 21, 22, 23, 24, 25, 26, 27, 28, 29, 30, 31, 32, 33, 34, 35, 36, 37]] (rel [is (.slice (a87') (L9.length) (c88')),
   is (.int .i64 ((j : Int))),
   is (.pointer (some ⟨bq, oq + j * 2, none⟩)),
   is (.agg #[.int .i64 (((nthP L9 j).1)), .int .i64 (((nthP L9 j).2))]),
   is (.int .i64 ((j : Int))),
   is (.pointer (some ⟨(s17 79), j, none⟩)),
   is (.int .i64 ((mic b tz j))),
   is (.bool true),
   is (.bool false),
   is (.bool false),
   is (.int .i64 ((k : Int))),
   is (.bool ((k : Int) == 1)),
   is (.bool ((k : Int) == 1)),
   gd ((k : Int) == 1) true (is (.int .i64 ((j : Int)))),
   gd ((k : Int) == 1) true (is (.pointer (some ⟨(s17 79), j, none⟩))),
   gd ((k : Int) == 1) true (is (.int .i64 ((mic b tz j)))),
   gd ((k : Int) == 1) true (is (.slice (a87') (L9.length) (c88'))),
   gd ((k : Int) == 1) true (is (.int .i64 ((j : Int)))),
   gd ((k : Int) == 1) true (is (.pointer (some ⟨bq, oq + j * 2, none⟩))),
   gd ((k : Int) == 1) true (is (.pointer (some ⟨bq, oq + j * 2 + 1, none⟩))),
   gd ((k : Int) == 1) true (is (.int .i64 (((nthP L9 j).2)))),
   gd ((k : Int) == 1) true (is (.bool false)),
   is (.bool false),
   is (.bool false),
   is (.bool false),
   is (.int .i64 ((k : Int))),
   is (.bool ((k : Int) == 2)),
   is (.bool ((k : Int) == 2)),
   gd ((k : Int) == 2) true (is (.int .i64 ((j : Int)))),
   gd ((k : Int) == 2) true (is (.pointer (some ⟨(s17 79), j, none⟩))),
   gd ((k : Int) == 2) true (is (.int .i64 ((mic b tz j)))),
   gd ((k : Int) == 2) true (is (.slice (a87') (L9.length) (c88'))),
   gd ((k : Int) == 2) true (is (.int .i64 ((j : Int)))),
   gd ((k : Int) == 2) true (is (.pointer (some ⟨bq, oq + j * 2, none⟩))),
   gd ((k : Int) == 2) true (is (.pointer (some ⟨bq, oq + j * 2, none⟩))),
   gd ((k : Int) == 2) true (is (.int .i64 (((nthP L9 j).1)))),
   gd ((k : Int) == 2) true (is (.bool false)),
   is (.bool false),
   is (.bool false)])
    ⟨is_k, is_k, is_k, is_k, is_k, is_k, is_k, is_k, is_k, is_k, is_k, is_k, is_k, gd_k (is_k), gd_k (is_k), gd_k (is_k), gd_k (is_k), gd_k (is_k), gd_k (is_k), gd_k (is_k), gd_k (is_k), gd_k (is_k), is_k, is_k, is_k, is_k, is_k, is_k, gd_k (is_k), gd_k (is_k), gd_k (is_k), gd_k (is_k), gd_k (is_k), gd_k (is_k), gd_k (is_k), gd_k (is_k), gd_k (is_k), is_k, is_k, trivial⟩
    ⟨fun f s W g l m n p a => opv rfl rfl (by simp [go_sem, a.e 11 k20_11]) rfl,
  fun f s W g l m n p a => opv rfl rfl (by simp [go_sem, a.e 17 k20_17]) rfl,
  fun f s W g l m n p a => opv rfl rfl (by simp [go_sem, a.e 148 (l 0 rfl), a.e 149 (l 1 rfl), hab, lij]) rfl,
  fun f s W g l m n p a => by have aW := below_trans fA20 g; have cu := pp_nth (i := j) (ft_7.below aW (Nat.le_refl _)) hab (by omega); have cx_ := cu.1; have cy_ := cu.2; exact opv rfl rfl (by simp [go_sem, a.e 150 (l 2 rfl), cx_, cy_]) rfl,
  fun f s W g l m n p a => opv rfl rfl (by simp [go_sem, a.e 17 k20_17]) rfl,
  fun f s W g l m n p a => opv rfl rfl (by simp [go_sem, a.e 16 k20_16, a.e 152 (l 4 rfl), hj9, hj9i]) rfl,
  fun f s W g l m n p a => by have cm := (cb b20_6 g j).trans (mic_cell hj9); exact opv rfl rfl (by simp [go_sem, a.e 153 (l 5 rfl), cm]) rfl,
  fun f s W g l m n p a => opc rfl rfl (by simp [go_sem, a.e 151 (l 3 rfl), a.e 154 (l 6 rfl)]) (pubHas_yes (((nthP L9 j).1)) (((nthP L9 j).2)) ((mic b tz j)) W hma hmb),
  fun f s W g l m n p a => opv rfl rfl (by simp [go_sem, a.e 155 (l 7 rfl)]) rfl,
  fun f s W g l m n p a => opv rfl rfl (by simp [go_sem, a.e 156 (l 8 rfl)]) rfl,
  fun f s W g l m n p a => osure rfl rfl (a.says (d := 157) rfl rfl (l 9 rfl)) (gv (by simp [go_sem, a.e 13 k20_13]) rfl),
  fun f s W g l m n p a => osure rfl rfl (a.says (d := 157) rfl rfl (l 9 rfl)) (gv (by simp [go_sem, a.e 158 (l 10 rfl)]) rfl),
  fun f s W g l m n p a => osure rfl rfl (a.says (d := 157) rfl rfl (l 9 rfl)) (gv (by simp [go_sem, a.e 159 (l 11 rfl)]) rfl),
  fun f s W g l m n p a => gdo rfl rfl (a.says (d := 160) rfl rfl (l 12 rfl)) fun hgd0 => gv (by simp [go_sem, a.e 17 k20_17]) rfl,
  fun f s W g l m n p a => gdo rfl rfl (a.says (d := 160) rfl rfl (l 12 rfl)) fun hgd0 => gv (by simp [go_sem, a.e 16 k20_16, a.e 161 ((l 13 rfl).1 hgd0), hj9, hj9i]) rfl,
  fun f s W g l m n p a => gdo rfl rfl (a.says (d := 160) rfl rfl (l 12 rfl)) fun hgd0 => by have cm := (cb b20_6 g j).trans (mic_cell hj9); exact gv (by simp [go_sem, a.e 162 ((l 14 rfl).1 hgd0), cm]) rfl,
  fun f s W g l m n p a => gdo rfl rfl (a.says (d := 160) rfl rfl (l 12 rfl)) fun hgd0 => gv (by simp [go_sem, a.e 11 k20_11]) rfl,
  fun f s W g l m n p a => gdo rfl rfl (a.says (d := 160) rfl rfl (l 12 rfl)) fun hgd0 => gv (by simp [go_sem, a.e 17 k20_17]) rfl,
  fun f s W g l m n p a => gdo rfl rfl (a.says (d := 160) rfl rfl (l 12 rfl)) fun hgd0 => gv (by simp [go_sem, a.e 164 ((l 16 rfl).1 hgd0), a.e 165 ((l 17 rfl).1 hgd0), hab, lij]) rfl,
  fun f s W g l m n p a => gdo rfl rfl (a.says (d := 160) rfl rfl (l 12 rfl)) fun hgd0 => gv (by simp [go_sem, a.e 166 ((l 18 rfl).1 hgd0)]) rfl,
  fun f s W g l m n p a => gdo rfl rfl (a.says (d := 160) rfl rfl (l 12 rfl)) fun hgd0 => by have aW := below_trans fA20 g; have cu := (pp_nth (i := j) (ft_7.below aW (Nat.le_refl _)) hab (by omega)).2; exact gv (by simp [go_sem, a.e 167 ((l 19 rfl).1 hgd0), cu]) rfl,
  fun f s W g l m n p a => gdo rfl rfl (a.says (d := 160) rfl rfl (l 12 rfl)) fun hgd0 => by have hne_ := hM1 (beq_iff_eq.1 hgd0); exact gv (by simp [go_sem, a.e 163 ((l 15 rfl).1 hgd0), a.e 168 ((l 20 rfl).1 hgd0), hne_]) rfl,
  fun f s W g l m n p a => osure rfl rfl (a.says (d := 157) rfl rfl (l 9 rfl)) (gk (c := (k : Int) == 1) (fun hpk => by first | (simp [go_sem, hpk, a.e 160 (l 12 rfl)]; done) | (have hpk' := hpk; simp at hpk'; simp [go_sem, hpk', hpk, a.e 160 (l 12 rfl)])) (fun hpk => by first | (simp [go_sem, hpk, a.e 160 (l 12 rfl), a.e 169 ((l 21 rfl).1 hpk)]; done) | (have hpk' := hpk; simp at hpk'; simp [go_sem, hpk', hpk, a.e 160 (l 12 rfl), a.e 169 ((l 21 rfl).1 hpk)]))),
  fun f s W g l m n p a => opk (c := false) rfl rfl (fun _ => by simp [go_sem, a.e 157 (l 9 rfl), a.e 170 (l 22 rfl)]) (fun h => absurd h (by decide)),
  fun f s W g l m n p a => opv rfl rfl (by simp [go_sem, a.e 171 (l 23 rfl)]) rfl,
  fun f s W g l m n p a => osure rfl rfl (a.says (d := 172) rfl rfl (l 24 rfl)) (gv (by simp [go_sem, a.e 13 k20_13]) rfl),
  fun f s W g l m n p a => osure rfl rfl (a.says (d := 172) rfl rfl (l 24 rfl)) (gv (by simp [go_sem, a.e 173 (l 25 rfl)]) rfl),
  fun f s W g l m n p a => osure rfl rfl (a.says (d := 172) rfl rfl (l 24 rfl)) (gv (by simp [go_sem, a.e 174 (l 26 rfl)]) rfl),
  fun f s W g l m n p a => gdo rfl rfl (a.says (d := 175) rfl rfl (l 27 rfl)) fun hgd0 => gv (by simp [go_sem, a.e 17 k20_17]) rfl,
  fun f s W g l m n p a => gdo rfl rfl (a.says (d := 175) rfl rfl (l 27 rfl)) fun hgd0 => gv (by simp [go_sem, a.e 16 k20_16, a.e 176 ((l 28 rfl).1 hgd0), hj9, hj9i]) rfl,
  fun f s W g l m n p a => gdo rfl rfl (a.says (d := 175) rfl rfl (l 27 rfl)) fun hgd0 => by have cm := (cb b20_6 g j).trans (mic_cell hj9); exact gv (by simp [go_sem, a.e 177 ((l 29 rfl).1 hgd0), cm]) rfl,
  fun f s W g l m n p a => gdo rfl rfl (a.says (d := 175) rfl rfl (l 27 rfl)) fun hgd0 => gv (by simp [go_sem, a.e 11 k20_11]) rfl,
  fun f s W g l m n p a => gdo rfl rfl (a.says (d := 175) rfl rfl (l 27 rfl)) fun hgd0 => gv (by simp [go_sem, a.e 17 k20_17]) rfl,
  fun f s W g l m n p a => gdo rfl rfl (a.says (d := 175) rfl rfl (l 27 rfl)) fun hgd0 => gv (by simp [go_sem, a.e 179 ((l 31 rfl).1 hgd0), a.e 180 ((l 32 rfl).1 hgd0), hab, lij]) rfl,
  fun f s W g l m n p a => gdo rfl rfl (a.says (d := 175) rfl rfl (l 27 rfl)) fun hgd0 => gv (by simp [go_sem, a.e 181 ((l 33 rfl).1 hgd0)]) rfl,
  fun f s W g l m n p a => gdo rfl rfl (a.says (d := 175) rfl rfl (l 27 rfl)) fun hgd0 => by have aW := below_trans fA20 g; have cu := (pp_nth (i := j) (ft_7.below aW (Nat.le_refl _)) hab (by omega)).1; exact gv (by simp [go_sem, a.e 182 ((l 34 rfl).1 hgd0), cu]) rfl,
  fun f s W g l m n p a => gdo rfl rfl (a.says (d := 175) rfl rfl (l 27 rfl)) fun hgd0 => by have hne_ := hM2 (beq_iff_eq.1 hgd0); exact gv (by simp [go_sem, a.e 178 ((l 30 rfl).1 hgd0), a.e 183 ((l 35 rfl).1 hgd0), hne_]) rfl,
  fun f s W g l m n p a => osure rfl rfl (a.says (d := 172) rfl rfl (l 24 rfl)) (gk (c := (k : Int) == 2) (fun hpk => by first | (simp [go_sem, hpk, a.e 175 (l 27 rfl)]; done) | (have hpk' := hpk; simp at hpk'; simp [go_sem, hpk', hpk, a.e 175 (l 27 rfl)])) (fun hpk => by first | (simp [go_sem, hpk, a.e 175 (l 27 rfl), a.e 184 ((l 36 rfl).1 hpk)]; done) | (have hpk' := hpk; simp at hpk'; simp [go_sem, hpk', hpk, a.e 175 (l 27 rfl), a.e 184 ((l 36 rfl).1 hpk)]))),
  fun f s W g l m n p a => opk (c := false) rfl rfl (fun _ => by simp [go_sem, a.e 172 (l 24 rfl), a.e 185 (l 37 rfl)]) (fun h => absurd h (by decide)), trivial⟩ ?_
   intro f21 s21 W21 hB21 g21 hg21
   have fB21 := hB21.f fB20
   have z21 := hB21.below.size
   have fA21 := hB21.f fA20
   have b21_6 := hB21.b b20_6
   refine hK22 _ _ ?_
   have k21_1 := kt hg21 1 k20_1
   have k21_4 := kt hg21 4 k20_4
   have k21_5 := kt hg21 5 k20_5
   have k21_6 := kt hg21 6 k20_6
   have k21_7 := kt hg21 7 k20_7
   have k21_11 := kt hg21 11 k20_11
   have k21_13 := kt hg21 13 k20_13
   have k21_16 := kt hg21 16 k20_16
   have k21_17 := kt hg21 17 k20_17
   have k21_186 := kt hg21 186 (hB21.is 38)
   refine wp_cond_false ((fr_eval rfl).trans k21_186) ?_
   refine wp_skip ?_
   refine inBlock_normal ?_
   refine hK21 _ _ ?_
   as_aux_lemma =>
   refine region_dk 3 [(146, 0), (147, 1), (17, 2)] [[], [0], [0, 1]] (rel [is (.int .i64 ((j : Int))),
   is (.int .i64 ((j : Int) + 1)),
   is (.int .i64 ((j : Int) + 1))])
    ⟨is_k, is_k, is_k, trivial⟩
    ⟨fun f s W g l m n p a => opv rfl rfl (by simp [go_sem, a.e 17 ((n 2 17 rfl rfl).trans k21_17)]) rfl,
  fun f s W g l m n p a => opv rfl rfl (by simp [go_sem, a.e 146 (l 0 rfl), IntWalk.i64_in ((j : Int) + 1) (by omega)]) rfl,
  fun f s W g l m n p a => opv rfl rfl (by simp [go_sem, a.e 147 (l 1 rfl)]) rfl, trivial⟩ ?_
   intro f22 s22 W22 hB22 g22 hg22
   have fB22 := hB22.f fB21
   have z22 := hB22.below.size
   have fA22 := hB22.f fA21
   have b22_6 := hB22.b b21_6
   refine wpOps_end ?_
   have k22_1 := kt hg22 1 k21_1
   have k22_4 := kt hg22 4 k21_4
   have k22_5 := kt hg22 5 k21_5
   have k22_6 := kt hg22 6 k21_6
   have k22_7 := kt hg22 7 k21_7
   have k22_11 := kt hg22 11 k21_11
   have k22_13 := kt hg22 13 k21_13
   have k22_16 := kt hg22 16 k21_16
   have k22_17 := kt hg22 17 (hB22.is 2)
   refine then_normal ?_
   exact ⟨_, by omega, g22, rfl, j + 1, rfl, k22_1, k22_4, k22_5, k22_6, k22_7, k22_11, k22_13, k22_16, k22_17.trans (by go_num), fB22, (by omega), fA22, b22_6, (by omega)⟩
  ·
   have hc20' := hc20; try simp only [ba] at hc20'
   refine wp_exit ?_
   refine then_exit ?_
   refine then_exit ?_
   refine inBlock_at ?_
   refine inBlock_normal ?_
   refine hK13 _ _ ?_
   as_aux_lemma =>
   refine region_dk 3 [(52, 0), (53, 1), (13, 2)] [[], [0], [0, 1]] (rel [is (.int .i64 ((k : Int))),
   is (.int .i64 ((k : Int) + 1)),
   is (.int .i64 ((k : Int) + 1))])
    ⟨is_k, is_k, is_k, trivial⟩
    ⟨fun f s W g l m n p a => opv rfl rfl (by simp [go_sem, a.e 13 ((n 2 13 rfl rfl).trans k20_13)]) rfl,
  fun f s W g l m n p a => opv rfl rfl (by simp [go_sem, a.e 52 (l 0 rfl), IntWalk.i64_in ((k : Int) + 1) (by omega)]) rfl,
  fun f s W g l m n p a => opv rfl rfl (by simp [go_sem, a.e 53 (l 1 rfl)]) rfl, trivial⟩ ?_
   intro f23 s23 W23 hB23 g23 hg23
   have fB23 := hB23.f fB20
   have z23 := hB23.below.size
   have fA23 := hB23.f fA20
   have b23_6 := hB23.b b20_6
   refine wpOps_end ?_
   have k23_1 := kt hg23 1 k20_1
   have k23_4 := kt hg23 4 k20_4
   have k23_5 := kt hg23 5 k20_5
   have k23_6 := kt hg23 6 k20_6
   have k23_7 := kt hg23 7 k20_7
   have k23_11 := kt hg23 11 k20_11
   have k23_13 := kt hg23 13 (hB23.is 2)
   refine then_normal ?_
   exact ⟨_, by omega, g23, rfl, k + 1, rfl, k23_1, k23_4, k23_5, k23_6, k23_7, k23_11, k23_13.trans (by go_num), fB23, (by omega), fA23, (by omega)⟩
 ·
  have hc12' := hc12; try simp only [ba] at hc12'
  refine wp_exit ?_
  refine then_exit ?_
  refine then_exit ?_
  refine inBlock_at ?_
  refine hK8 _ _ ?_
  refine wp_seq_k fun K24 hK24 => ?_
  as_aux_lemma =>
  refine region_dk 5 [(187, 0), (188, 1), (189, 2), (190, 3), (4, 4)] [[], [0], [0, 1], [0, 1, 2], [0, 1, 2, 3]] (rel [is (.bool true),
   is (.bool true),
   is (.bool true),
   is (.bool true),
   is (.bool true)])
   ⟨is_k, is_k, is_k, is_k, is_k, trivial⟩
   ⟨fun f s W g l m n p a => opc rfl rfl (by simp [go_sem]) (pubBoard_yes W),
  fun f s W g l m n p a => opv rfl rfl (by simp [go_sem, a.e 187 (l 0 rfl)]) rfl,
  fun f s W g l m n p a => osure rfl rfl (a.says (d := 188) rfl rfl (l 1 rfl)) (gc (by simp [go_sem]) (pubScore_yes W)),
  fun f s W g l m n p a => opk (c := true) rfl rfl (fun h => absurd h (by decide)) (fun _ => by simp [go_sem, a.e 188 (l 1 rfl), a.e 189 (l 2 rfl)]),
  fun f s W g l m n p a => opv rfl rfl (by simp [go_sem, a.e 190 (l 3 rfl)]) rfl, trivial⟩ ?_
  intro f24 s24 W24 hB24 g24 hg24
  have fB24 := hB24.f fB12
  have z24 := hB24.below.size
  have fA24 := hB24.f fA12
  refine hK24 _ _ ?_
  have k24_4 := kt hg24 4 (hB24.is 4)
  refine wp_ret ?_
  refine leave_one (N := 191) (v := .bool true) (.inr rfl) Try.results4 rfl k24_4 ?_
  exact ⟨rfl, fB24⟩
end Go.Proofs.Ytiocklgakklkpaa
