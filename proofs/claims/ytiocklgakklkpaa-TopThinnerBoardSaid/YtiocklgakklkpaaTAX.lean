/- Part of the proof: what the claim leans on. -/
import Derived.Test.YtiocklgakklkpaaTAW
set_option linter.unusedSimpArgs false
set_option linter.unusedVariables false
namespace Go.Proofs.Ytiocklgakklkpaa
open Go.RowKit
set_option maxRecDepth 100000 in
set_option maxHeartbeats 40000000 in
theorem thin_main_c13 (fv tv : Nat → Int) (ps : Nat → Pa) (qs : Nat → Fu) (tb lg wd hh fp fq sl : Int) (b : Bl) (ka kb kc kd m1 m2 m3 m4 : Int) (sa pa sc pd : Bool) (L9 M9 : List Sp) (w : World) (gtv : ∀ k, 0 ≤ tv k ∧ tv k ≤ 255) (hst : ∀ W, Calls Try.prog 6 #[.agg #[.int .u8 ((fv 0)), .int .u8 ((fv 1)), .int .u8 ((fv 2)), .int .u8 ((fv 3)), .int .u8 ((fv 4)), .int .u8 ((fv 5)), .int .u8 ((fv 6)), .int .u8 ((fv 7)), .int .u8 ((fv 8)), .int .u8 ((fv 9)), .int .u8 ((fv 10)), .int .u8 ((fv 11)), .int .u8 ((fv 12)), .int .u8 ((fv 13)), .int .u8 ((fv 14)), .int .u8 ((fv 15)), .int .u8 ((fv 16)), .int .u8 ((fv 17)), .int .u8 ((fv 18)), .int .u8 ((fv 19)), .int .u8 ((fv 20)), .int .u8 ((fv 21)), .int .u8 ((fv 22)), .int .u8 ((fv 23)), .int .u8 ((fv 24))]] W (StoOP ps qs W)) (hbox : ∀ W, Calls Try.prog 7 #[.agg #[.int .u8 ((fv 0)), .int .u8 ((fv 1)), .int .u8 ((fv 2)), .int .u8 ((fv 3)), .int .u8 ((fv 4)), .int .u8 ((fv 5)), .int .u8 ((fv 6)), .int .u8 ((fv 7)), .int .u8 ((fv 8)), .int .u8 ((fv 9)), .int .u8 ((fv 10)), .int .u8 ((fv 11)), .int .u8 ((fv 12)), .int .u8 ((fv 13)), .int .u8 ((fv 14)), .int .u8 ((fv 15)), .int .u8 ((fv 16)), .int .u8 ((fv 17)), .int .u8 ((fv 18)), .int .u8 ((fv 19)), .int .u8 ((fv 20)), .int .u8 ((fv 21)), .int .u8 ((fv 22)), .int .u8 ((fv 23)), .int .u8 ((fv 24))], .int .i64 0] W (BoxOP tb lg wd hh fp fq sl W)) (hI : FoldIn ps qs) (hb : (⟨tb, [lg, wd, lg, wd], hh, [fp, fp], [fp, fq], sl, false⟩ : Bl) = b) (hck : checkErr b = 0) (hm1 : w1S (o1 (ps 0)) (o1 (ps 1)) (o1 (ps 2)) (qs 0) = m1) (hm2 : w1S (o2 (ps 0)) (o2 (ps 1)) (o2 (ps 2)) (qs 0) = m2) (hka : lo1 ps qs = ka) (hkb : hi1 ps qs = kb) (hm3 : w2S (o1 (ps 0)) (o1 (ps 1)) (o1 (ps 2)) (qs 0) (qs 1) = m3) (hm4 : w2S (o2 (ps 0)) (o2 (ps 1)) (o2 (ps 2)) (qs 0) (qs 1) = m4) (hkc : lo2 ps qs = kc) (hkd : hi2 ps qs = kd) (j1 : 1 ≤ ka) (j2 : ka ≤ kb) (j3 : kb ≤ 10000) (j4 : 1 ≤ kc) (j5 : kc ≤ kd) (j6 : kd ≤ 10000) (e1 : ka ≤ kc) (e2 : kb ≤ kd) (e3 : m1 ≤ m3) (e4 : m2 ≤ m4) (hL9 : innerL b (ka, kb) 0 = L9) (hn9 : L9.length = 9) (hM9 : innerL b (kc, kd) 0 = M9) (hm9 : M9.length = 9) (hle9 : ∀ j, j < 9 → (nthP M9 j).1 ≤ (nthP L9 j).1 ∧ (nthP M9 j).2 ≤ (nthP L9 j).2) (gx0 : 0 ≤ tv 0 + 20 ∧ tv 0 + 20 ≤ 3000) (gx1 : 0 ≤ tv 1 + 20 ∧ tv 1 + 20 ≤ 3000) (gx2 : 0 ≤ tv 2 + 20 ∧ tv 2 + 20 ≤ 3000) (hsa : insideB b kb ((tv 0) + 20) ((tv 1) + 20) ((tv 2) + 20) = sa) (hpa : insideB b ka ((tv 0) + 20) ((tv 1) + 20) ((tv 2) + 20) = pa) (hsc : insideB b kd ((tv 0) + 20) ((tv 1) + 20) ((tv 2) + 20) = sc) (hpd : insideB b kc ((tv 0) + 20) ((tv 1) + 20) ((tv 2) + 20) = pd) (hfin : ((!sc || sa) && (!pd || pa) && (!sa || pa)) = true) (g_ : Nat → Value) (W_ : World) (bk0 : Nat) (bk1 : Nat) (bk3 : Nat) (bk5 : Nat) (a103' : Option Addr) (c104' : Nat) (a131' : Option Addr) (c132' : Nat) (g1' : Nat) (c3' : Nat) (g2' : Nat) (c4' : Nat) (g7' : Nat) (c10' : Nat) (g8' : Nat) (c11' : Nat) (g9' : Nat) (c12' : Nat) (bk6 : Nat) (bk7 : Nat) (bk2 : Nat) (bk4 : Nat)  (k_3 : g_ 3 = .pointer (some ⟨bk0, 0, none⟩)) (k_4 : g_ 4 = .bool false) (k_6 : g_ 6 = .pointer (some ⟨bk1, 0, none⟩)) (k_8 : g_ 8 = .pointer (some ⟨bk3, 0, none⟩)) (k_11 : g_ 11 = .pointer (some ⟨bk5, 0, none⟩)) (fB_ : Below w.heap.size w W_) (bl_0 : W_.heap[bk6]? = some (.cells #[.int .u8 ((fv 0)), .int .u8 ((fv 1)), .int .u8 ((fv 2)), .int .u8 ((fv 3)), .int .u8 ((fv 4)), .int .u8 ((fv 5)), .int .u8 ((fv 6)), .int .u8 ((fv 7)), .int .u8 ((fv 8)), .int .u8 ((fv 9)), .int .u8 ((fv 10)), .int .u8 ((fv 11)), .int .u8 ((fv 12)), .int .u8 ((fv 13)), .int .u8 ((fv 14)), .int .u8 ((fv 15)), .int .u8 ((fv 16)), .int .u8 ((fv 17)), .int .u8 ((fv 18)), .int .u8 ((fv 19)), .int .u8 ((fv 20)), .int .u8 ((fv 21)), .int .u8 ((fv 22)), .int .u8 ((fv 23)), .int .u8 ((fv 24))] 28 (0, 0))) (bl_1 : W_.heap[bk0]? = some (.cells #[.int .u8 ((tv 0)), .int .u8 ((tv 1)), .int .u8 ((tv 2))] 24 (0, 0))) (bl_2 : W_.heap[bk7]? = some (.cells #[.slice (some ⟨g1', 0, none⟩) (3) (c3'), .slice (some ⟨g2', 0, none⟩) (2) (c4')] 33 (0, 0))) (bl_3 : W_.heap[bk1]? = some (.cells #[.int .i64 tb, .slice (some ⟨g7', 0, none⟩) (4) (c10'), .int .i64 hh, .slice (some ⟨g8', 0, none⟩) (2) (c11'), .slice (some ⟨g9', 0, none⟩) (2) (c12'), .int .i64 sl, .bool false] 37 (0, 0))) (bl_4 : W_.heap[bk2]? = some (.cells #[.int .i64 m1, .int .i64 m2] 40 (0, 0))) (bl_5 : W_.heap[bk3]? = some (.cells #[.int .i64 ka, .int .i64 kb] 40 (0, 0))) (bl_6 : W_.heap[bk4]? = some (.cells #[.int .i64 m3, .int .i64 m4] 40 (0, 0))) (bl_7 : W_.heap[bk5]? = some (.cells #[.int .i64 kc, .int .i64 kd] 40 (0, 0))) (ft_0 : OwnR 68 8 0 3 (paCells3 ps) g1' c3' W_) (ft_1 : OwnR 70 4 0 2 (fuCells2 qs) g2' c4' W_) (ft_2 : OwnI 0 ([lg, wd, lg, wd]) g7' c10' W_) (ft_3 : OwnI 0 ([fp, fp]) g8' c11' W_) (ft_4 : OwnI 0 ([fp, fq]) g9' c12' W_) (ft_5 : Pp W_ a103' L9.length c104' L9) (ft_6 : Pp W_ a131' M9.length c132' M9) (lw_bk6 : w.heap.size ≤ bk6) (lw_bk0 : w.heap.size ≤ bk0) (lw_bk7 : w.heap.size ≤ bk7) (lw_bk1 : w.heap.size ≤ bk1) (lw_bk2 : w.heap.size ≤ bk2) (lw_bk3 : w.heap.size ≤ bk3) (lw_bk4 : w.heap.size ≤ bk4) (lw_bk5 : w.heap.size ≤ bk5) :
  (tailC 8 (bodyC Try.f5)).wp Try.prog (bodyPost Try.prog Try.f5 (fun e w' => e = .returned (.bool true) ∧ Below w.heap.size w w')) (fr 204 g_) W_ := by
 have hL9z : ((L9.length : Int) != 9) = false := by rw [hn9]; rfl
 have hM9z : ((M9.length : Int) != 9) = false := by rw [hm9]; rfl
 have hn1 := Int.not_lt.2 e1
 have hn2 := Int.not_lt.2 e2
 have hn3 := Int.not_lt.2 e3
 have hn4 := Int.not_lt.2 e4
 have gt0 := gtv 0
 have gt1 := gtv 1
 have gt2 := gtv 2
 have lt_bk6 := lt_of_blk bl_0
 have lt_bk0 := lt_of_blk bl_1
 have lt_bk7 := lt_of_blk bl_2
 have lt_bk1 := lt_of_blk bl_3
 have lt_bk2 := lt_of_blk bl_4
 have lt_bk3 := lt_of_blk bl_5
 have lt_bk4 := lt_of_blk bl_6
 have lt_bk5 := lt_of_blk bl_7
 have lo_ft_2 := ft_2.lim
 have lo_ft_3 := ft_3.lim
 have lo_ft_4 := ft_4.lim
 have lim167' := Pp.lim ft_5
 have lim168' := Pp.lim ft_6
 refine wp_seq_k fun K18 hK18 => ?_
 as_aux_lemma =>
 refine region_dk 14 [(139, 0), (140, 1), (141, 2), (142, 3), (143, 4), (144, 5), (145, 6), (146, 7), (147, 8), (148, 9), (149, 10), (150, 11), (151, 12), (18, 13)] [[], [0], [0, 1], [0, 1, 2], [], [4], [4, 5], [4, 5, 6], [], [8], [8, 9], [8, 9, 10], [0, 1, 2, 3, 4, 5, 6, 7, 8, 9, 10, 11], [0, 1, 2, 3, 4, 5, 6, 7, 8, 9, 10, 11, 12]] (rel [is (.pointer (some ⟨bk0, 0, none⟩)),
   is (.int .u8 ((tv 0))),
   is (.int .i64 ((tv 0))),
   is (.int .i64 ((tv 0) + 20)),
   is (.pointer (some ⟨bk0, 1, none⟩)),
   is (.int .u8 ((tv 1))),
   is (.int .i64 ((tv 1))),
   is (.int .i64 ((tv 1) + 20)),
   is (.pointer (some ⟨bk0, 2, none⟩)),
   is (.int .u8 ((tv 2))),
   is (.int .i64 ((tv 2))),
   is (.int .i64 ((tv 2) + 20)),
   row 12 3 #[.int .i64 ((tv 0) + 20), .int .i64 ((tv 1) + 20), .int .i64 ((tv 2) + 20)] 3,
   isS fun s => .slice (some ⟨(s 12), 0, none⟩) (3) (3)])
  ⟨is_k, is_k, is_k, is_k, is_k, is_k, is_k, is_k, is_k, is_k, is_k, is_k, row_k, isS_k fun s s' e => by rw [e 12 (by simp)], trivial⟩
  ⟨fun f s W g i l m n a => opv rfl rfl (by simp [go_sem, a.e 3 k_3]) rfl,
  fun f s W g i l m n a => opv rfl rfl (by simp [go_sem, a.e 139 (i 0 rfl), cb bl_1 g 0]) rfl,
  fun f s W g i l m n a => by have gt_ := gtv 0; have cv_ := IntWalk.i64_in (tv 0) (by omega); exact opv rfl rfl (by simp [go_sem, a.e 140 (i 1 rfl), cv_]) rfl,
  fun f s W g i l m n a => opv rfl rfl (by simp [go_sem, a.e 141 (i 2 rfl), IntWalk.i64_in ((tv 0) + 20) (by omega)]) rfl,
  fun f s W g i l m n a => opv rfl rfl (by simp [go_sem, a.e 3 k_3]) rfl,
  fun f s W g i l m n a => opv rfl rfl (by simp [go_sem, a.e 143 (i 4 rfl), cb bl_1 g 1]) rfl,
  fun f s W g i l m n a => by have gt_ := gtv 1; have cv_ := IntWalk.i64_in (tv 1) (by omega); exact opv rfl rfl (by simp [go_sem, a.e 144 (i 5 rfl), cv_]) rfl,
  fun f s W g i l m n a => opv rfl rfl (by simp [go_sem, a.e 145 (i 6 rfl), IntWalk.i64_in ((tv 1) + 20) (by omega)]) rfl,
  fun f s W g i l m n a => opv rfl rfl (by simp [go_sem, a.e 3 k_3]) rfl,
  fun f s W g i l m n a => opv rfl rfl (by simp [go_sem, a.e 147 (i 8 rfl), cb bl_1 g 2]) rfl,
  fun f s W g i l m n a => by have gt_ := gtv 2; have cv_ := IntWalk.i64_in (tv 2) (by omega); exact opv rfl rfl (by simp [go_sem, a.e 148 (i 9 rfl), cv_]) rfl,
  fun f s W g i l m n a => opv rfl rfl (by simp [go_sem, a.e 149 (i 10 rfl), IntWalk.i64_in ((tv 2) + 20) (by omega)]) rfl,
  fun f s W g i l m n a => opr rfl rfl (by simp [go_sem, a.e 142 (i 3 rfl), a.e 146 (i 7 rfl), a.e 150 (i 11 rfl)]),
  fun f s W g i l m n a => opv rfl rfl (by simp [go_sem, a.e 151 (i 12 rfl).1, upd]) rfl, trivial⟩ ?_
 intro f21 s21 W21 hB21 g21 hg21
 have fB21 := hB21.f fB_
 have z21 := hB21.below.size
 have b21_0 := hB21.b bl_0
 have b21_1 := hB21.b bl_1
 have b21_2 := hB21.b bl_2
 have b21_3 := hB21.b bl_3
 have b21_4 := hB21.b bl_4
 have b21_5 := hB21.b bl_5
 have b21_6 := hB21.b bl_6
 have b21_7 := hB21.b bl_7
 have q169' := (ft_0.below hB21.below)
 have q170' := (ft_1.below hB21.below)
 have q171' := (ft_2.below hB21.below)
 have q172' := (ft_3.below hB21.below)
 have q173' := (ft_4.below hB21.below)
 have q174' := (ft_5.bw hB21)
 have q175' := (ft_6.bw hB21)
 obtain ⟨r21_12, br21_12⟩ := hB21.is 12
 have lr21_12 := hB21.lr 12 br21_12
 refine hK18 _ _ ?_
 have k21_4 := kt hg21 4 k_4
 have k21_6 := kt hg21 6 k_6
 have k21_8 := kt hg21 8 k_8
 have k21_11 := kt hg21 11 k_11
 have k21_18 := kt hg21 18 (hB21.is 13)
 refine wp_seq_k fun K19 hK19 => ?_
 as_aux_lemma =>
 refine region_dk 13 [(153, 0), (154, 1), (155, 2), (156, 3), (157, 4), (158, 5), (152, 6), (159, 7), (160, 8), (161, 9), (19, 10), (20, 11), (21, 12)] [[], [0], [], [], [0, 1, 3], [0, 1, 2, 3, 4], [0, 1, 2, 3, 4, 5], [0, 1, 2, 3, 4, 5, 6], [0, 1, 2, 3, 4, 5, 6], [0, 1, 2, 3, 4, 5, 6], [0, 1, 2, 3, 4, 5, 6, 7], [0, 1, 2, 3, 4, 5, 6, 7, 8, 10], [0, 1, 2, 3, 4, 5, 6, 7, 8, 9, 10, 11]] (rel [is (.agg #[.int .i64 tb, .slice (some ⟨g7', 0, none⟩) (4) (c10'), .int .i64 hh, .slice (some ⟨g8', 0, none⟩) (2) (c11'), .slice (some ⟨g9', 0, none⟩) (2) (c12'), .int .i64 sl, .bool false]),
   ab fun v W => NwBlk 0 (b) v W,
   is (.agg #[.int .i64 ka, .int .i64 kb]),
   is (.slice (some ⟨(s21 12), 0, none⟩) (3) (3)),
   fun v s W => OwI (s 4) ([(tv 0) + 20, (tv 1) + 20, (tv 2) + 20]) 3 v W,
   is (.tuple #[.bool sa, .bool pa, .int .i64 0]),
   is (.tuple #[.bool sa, .bool pa, .int .i64 0]),
   is (.bool sa),
   is (.bool pa),
   is (.int .i64 0),
   is (.bool sa),
   is (.bool pa),
   is (.int .i64 0)])
  ⟨is_k, ab_k fun v W W' hb h => h.below hb, is_k, is_k, ⟨fun v k W W' hb h => h.below hb, fun v s s' W e h => by have h' : OwI (s 4) ([(tv 0) + 20, (tv 1) + 20, (tv 2) + 20]) 3 v W := h; show OwI (s' 4) ([(tv 0) + 20, (tv 1) + 20, (tv 2) + 20]) 3 v W; rw [← e 4 (by simp)]; exact h'⟩, is_k, is_k, is_k, is_k, is_k, is_k, is_k, is_k, trivial⟩
  ⟨fun f s W g i l m n a => opl rfl rfl rfl (a.v 6 k21_6) (blk_below b21_3 g) Try.underlying37 rfl (by kernel_rfl) rfl,
  fun f s W g i l m n a => opDo_call (args := #[.agg #[.int .i64 tb, .slice (some ⟨g7', 0, none⟩) (4) (c10'), .int .i64 hh, .slice (some ⟨g8', 0, none⟩) (2) (c11'), .slice (some ⟨g9', 0, none⟩) (2) (c12'), .int .i64 sl, .bool false]]) rfl rfl (by simp [go_sem, a.e 153 (i 0 rfl)]) (pubBlank_any _ _ _ _ _ _ (⟨tb, [lg, wd, lg, wd], hh, [fp, fp], [fp, fq], sl, false⟩ : Bl) W ((q171'.below g)).ii ((q172'.below g)).ii ((q173'.below g)).ii (show 4 ≤ 1000 by decide) (show 2 ≤ 1000 by decide) (show 2 ≤ 1000 by decide)) ((fun e W' h => by obtain ⟨v, e1, h1, h2⟩ := h; rw [hb] at h1; exact ⟨_, e1, h2, h1.low (Nat.zero_le _)⟩)),
  fun f s W g i l m n a => opv rfl rfl (by simp [go_sem, a.e 8 k21_8, cb b21_5 g 0, cb b21_5 g 1]) rfl,
  fun f s W g i l m n a => opv rfl rfl (by simp [go_sem, a.e 18 k21_18]) rfl,
  fun f s W g i l m n a => opDo_call rfl rfl (by simp [go_sem, a.e 156 (i 3 rfl)]) (pubInts_own (some ⟨(s21 12), 0, none⟩) 3 3 [(tv 0) + 20, (tv 1) + 20, (tv 2) + 20] W (ii_block (xs := [(tv 0) + 20, (tv 1) + 20, (tv 2) + 20]) (blk_below br21_12 g) rfl rfl) (by decide) (by decide)) (fun e W' h => by obtain ⟨v, e1, h1, h2⟩ := h; exact ⟨v, e1, h2, (show OwI (upd s 4 W.heap.size 4) ([(tv 0) + 20, (tv 1) + 20, (tv 2) + 20]) 3 v W' from by rw [upd_at]; exact h1)⟩),
  fun f s W g i l m n a => by obtain ⟨g176', c179', g177', c180', g178', c181', d1, ⟨q182', q184', q183'⟩, ⟨q185', q187', q186'⟩, ⟨q188', q190', q189'⟩⟩ := (i 1 rfl); obtain ⟨g191', c192', d4, q193'⟩ := (i 4 rfl); exact opc (args := #[.agg #[.int .i64 b.tab, .slice (some ⟨g176', 0, none⟩) (b.panels.length) (c179'), .int .i64 b.height, .slice (some ⟨g177', 0, none⟩) (b.top.length) (c180'), .slice (some ⟨g178', 0, none⟩) (b.bottom.length) (c181'), .int .i64 b.slot, .bool b.isOpen], .agg #[.int .i64 ka, .int .i64 kb], .slice (some ⟨g191', 0, none⟩) (3) (c192')]) rfl rfl (by simp [go_sem, a.e 154 d1, a.e 155 (i 2 rfl), a.e 157 d4]) (holds_in (b := b) (lo := ka) (hi := kb) W ⟨_, _, _, _, _, _, _, _, _, rfl, q182', q185', q188'⟩ q193'.ii hck j1 j2 j3 gx0 gx1 gx2 hsa hpa),
  fun f s W g i l m n a => opv rfl rfl (by simp [go_sem, a.e 158 (i 5 rfl)]) rfl,
  fun f s W g i l m n a => opv rfl rfl (by simp [go_sem, a.e 152 (i 6 rfl)]) rfl,
  fun f s W g i l m n a => opv rfl rfl (by simp [go_sem, a.e 152 (i 6 rfl)]) rfl,
  fun f s W g i l m n a => opv rfl rfl (by simp [go_sem, a.e 152 (i 6 rfl)]) rfl,
  fun f s W g i l m n a => opv rfl rfl (by simp [go_sem, a.e 159 (i 7 rfl)]) rfl,
  fun f s W g i l m n a => opv rfl rfl (by simp [go_sem, a.e 160 (i 8 rfl)]) rfl,
  fun f s W g i l m n a => opv rfl rfl (by simp [go_sem, a.e 161 (i 9 rfl)]) rfl, trivial⟩ ?_
 intro f22 s22 W22 hB22 g22 hg22
 have fB22 := hB22.f fB21
 have z22 := hB22.below.size
 have b22_0 := hB22.b b21_0
 have b22_1 := hB22.b b21_1
 have b22_2 := hB22.b b21_2
 have b22_3 := hB22.b b21_3
 have b22_4 := hB22.b b21_4
 have b22_5 := hB22.b b21_5
 have b22_6 := hB22.b b21_6
 have b22_7 := hB22.b b21_7
 have b22_8 := hB22.b br21_12
 have q194' := (q169'.below hB22.below)
 have q195' := (q170'.below hB22.below)
 have q196' := (q171'.below hB22.below)
 have q197' := (q172'.below hB22.below)
 have q198' := (q173'.below hB22.below)
 have q199' := (q174'.bw hB22)
 have q200' := (q175'.bw hB22)
 refine hK19 _ _ ?_
 have k22_4 := kt hg22 4 k21_4
 have k22_6 := kt hg22 6 k21_6
 have k22_11 := kt hg22 11 k21_11
 have k22_18 := kt hg22 18 k21_18
 have k22_19 := kt hg22 19 (hB22.is 10)
 have k22_20 := kt hg22 20 (hB22.is 11)
 have k22_21 := kt hg22 21 (hB22.is 12)
 refine wp_seq_k fun K20 hK20 => ?_
 as_aux_lemma =>
 refine region_dk 12 [(163, 0), (164, 1), (165, 2), (166, 3), (167, 4), (162, 5), (168, 6), (169, 7), (170, 8), (22, 9), (23, 10), (24, 11)] [[], [0], [], [], [0, 1, 2, 3], [0, 1, 2, 3, 4], [0, 1, 2, 3, 4, 5], [0, 1, 2, 3, 4, 5], [0, 1, 2, 3, 4, 5], [0, 1, 2, 3, 4, 5, 6], [0, 1, 2, 3, 4, 5, 6, 7, 9], [0, 1, 2, 3, 4, 5, 6, 7, 8, 9, 10]] (rel [is (.agg #[.int .i64 tb, .slice (some ⟨g7', 0, none⟩) (4) (c10'), .int .i64 hh, .slice (some ⟨g8', 0, none⟩) (2) (c11'), .slice (some ⟨g9', 0, none⟩) (2) (c12'), .int .i64 sl, .bool false]),
   ab fun v W => NwBlk 0 (b) v W,
   is (.agg #[.int .i64 kc, .int .i64 kd]),
   is (.slice (some ⟨(s21 12), 0, none⟩) (3) (3)),
   is (.tuple #[.bool sc, .bool pd, .int .i64 0]),
   is (.tuple #[.bool sc, .bool pd, .int .i64 0]),
   is (.bool sc),
   is (.bool pd),
   is (.int .i64 0),
   is (.bool sc),
   is (.bool pd),
   is (.int .i64 0)])
  ⟨is_k, ab_k fun v W W' hb h => h.below hb, is_k, is_k, is_k, is_k, is_k, is_k, is_k, is_k, is_k, is_k, trivial⟩
  ⟨fun f s W g i l m n a => opl rfl rfl rfl (a.v 6 k22_6) (blk_below b22_3 g) Try.underlying37 rfl (by kernel_rfl) rfl,
  fun f s W g i l m n a => opDo_call (args := #[.agg #[.int .i64 tb, .slice (some ⟨g7', 0, none⟩) (4) (c10'), .int .i64 hh, .slice (some ⟨g8', 0, none⟩) (2) (c11'), .slice (some ⟨g9', 0, none⟩) (2) (c12'), .int .i64 sl, .bool false]]) rfl rfl (by simp [go_sem, a.e 163 (i 0 rfl)]) (pubBlank_any _ _ _ _ _ _ (⟨tb, [lg, wd, lg, wd], hh, [fp, fp], [fp, fq], sl, false⟩ : Bl) W ((q196'.below g)).ii ((q197'.below g)).ii ((q198'.below g)).ii (show 4 ≤ 1000 by decide) (show 2 ≤ 1000 by decide) (show 2 ≤ 1000 by decide)) ((fun e W' h => by obtain ⟨v, e1, h1, h2⟩ := h; rw [hb] at h1; exact ⟨_, e1, h2, h1.low (Nat.zero_le _)⟩)),
  fun f s W g i l m n a => opv rfl rfl (by simp [go_sem, a.e 11 k22_11, cb b22_7 g 0, cb b22_7 g 1]) rfl,
  fun f s W g i l m n a => opv rfl rfl (by simp [go_sem, a.e 18 k22_18]) rfl,
  fun f s W g i l m n a => by obtain ⟨g201', c204', g202', c205', g203', c206', d1, ⟨q207', q209', q208'⟩, ⟨q210', q212', q211'⟩, ⟨q213', q215', q214'⟩⟩ := (i 1 rfl); exact opc (args := #[.agg #[.int .i64 b.tab, .slice (some ⟨g201', 0, none⟩) (b.panels.length) (c204'), .int .i64 b.height, .slice (some ⟨g202', 0, none⟩) (b.top.length) (c205'), .slice (some ⟨g203', 0, none⟩) (b.bottom.length) (c206'), .int .i64 b.slot, .bool b.isOpen], .agg #[.int .i64 kc, .int .i64 kd], .slice (some ⟨(s21 12), 0, none⟩) (3) (3)]) rfl rfl (by simp [go_sem, a.e 164 d1, a.e 165 (i 2 rfl), a.e 166 (i 3 rfl)]) (holds_in (b := b) (lo := kc) (hi := kd) W ⟨_, _, _, _, _, _, _, _, _, rfl, q207', q210', q213'⟩ (ii_block (xs := [(tv 0) + 20, (tv 1) + 20, (tv 2) + 20]) (blk_below b22_8 g) rfl rfl) hck j4 j5 j6 gx0 gx1 gx2 hsc hpd),
  fun f s W g i l m n a => opv rfl rfl (by simp [go_sem, a.e 167 (i 4 rfl)]) rfl,
  fun f s W g i l m n a => opv rfl rfl (by simp [go_sem, a.e 162 (i 5 rfl)]) rfl,
  fun f s W g i l m n a => opv rfl rfl (by simp [go_sem, a.e 162 (i 5 rfl)]) rfl,
  fun f s W g i l m n a => opv rfl rfl (by simp [go_sem, a.e 162 (i 5 rfl)]) rfl,
  fun f s W g i l m n a => opv rfl rfl (by simp [go_sem, a.e 168 (i 6 rfl)]) rfl,
  fun f s W g i l m n a => opv rfl rfl (by simp [go_sem, a.e 169 (i 7 rfl)]) rfl,
  fun f s W g i l m n a => opv rfl rfl (by simp [go_sem, a.e 170 (i 8 rfl)]) rfl, trivial⟩ ?_
 intro f23 s23 W23 hB23 g23 hg23
 have fB23 := hB23.f fB22
 have z23 := hB23.below.size
 have b23_0 := hB23.b b22_0
 have b23_1 := hB23.b b22_1
 have b23_2 := hB23.b b22_2
 have b23_3 := hB23.b b22_3
 have b23_4 := hB23.b b22_4
 have b23_5 := hB23.b b22_5
 have b23_6 := hB23.b b22_6
 have b23_7 := hB23.b b22_7
 have b23_8 := hB23.b b22_8
 have q216' := (q194'.below hB23.below)
 have q217' := (q195'.below hB23.below)
 have q218' := (q196'.below hB23.below)
 have q219' := (q197'.below hB23.below)
 have q220' := (q198'.below hB23.below)
 have q221' := (q199'.bw hB23)
 have q222' := (q200'.bw hB23)
 refine hK20 _ _ ?_
 have k23_4 := kt hg23 4 k22_4
 have k23_19 := kt hg23 19 k22_19
 have k23_20 := kt hg23 20 k22_20
 have k23_21 := kt hg23 21 k22_21
 have k23_22 := kt hg23 22 (hB23.is 9)
 have k23_23 := kt hg23 23 (hB23.is 10)
 have k23_24 := kt hg23 24 (hB23.is 11)
 refine wp_seq_k fun K21 hK21 => ?_
 as_aux_lemma =>
 refine region_dk 34 [(171, 0), (172, 1), (173, 2), (174, 3), (175, 4), (176, 5), (177, 6), (178, 7), (179, 8), (180, 9), (181, 10), (182, 11), (183, 12), (184, 13), (185, 14), (186, 15), (187, 16), (188, 17), (189, 18), (190, 19), (191, 20), (192, 21), (193, 22), (194, 23), (195, 24), (196, 25), (197, 26), (198, 27), (199, 28), (200, 29), (201, 30), (202, 31), (203, 32), (4, 33)] [[], [0], [0, 1], [0, 1, 2], [0, 1, 2, 3], [0, 1, 2, 3, 4], [0, 1, 2, 3, 4, 5], [0, 1, 2, 3, 4, 5, 6], [0, 1, 2, 3, 4, 5, 6, 7], [0, 1, 2, 3, 4, 5, 6, 7, 8], [0, 1, 2, 3, 4, 5, 6, 7, 8, 9], [0, 1, 2, 3, 4, 5, 6, 7, 8, 9, 10], [0, 1, 2, 3, 4, 5, 6, 7, 8, 9, 10, 11], [0, 1, 2, 3, 4, 5, 6, 7, 8, 9, 10, 11, 12], [0, 1, 2, 3, 4, 5, 6, 7, 8, 9, 10, 11, 12, 13], [0, 1, 2, 3, 4, 5, 6, 7, 8, 9, 10, 11, 12, 13, 14], [0, 1, 2, 3, 4, 5, 6, 7, 8, 9, 10, 11, 12, 13, 14, 15], [0, 1, 2, 3, 4, 5, 6, 7, 8, 9, 10, 11, 12, 13, 14, 15, 16], [0, 1, 2, 3, 4, 5, 6, 7, 8, 9, 10, 11, 12, 13, 14, 15, 16, 17], [0, 1, 2, 3, 4, 5, 6, 7, 8, 9, 10, 11, 12, 13, 14, 15, 16, 17, 18], [0, 1, 2, 3, 4, 5, 6, 7, 8, 9, 10, 11, 12, 13, 14, 15, 16, 17, 18, 19], [0, 1, 2, 3, 4, 5, 6, 7, 8, 9, 10, 11, 12, 13, 14, 15, 16, 17, 18, 19, 20], [0, 1, 2, 3, 4, 5, 6, 7, 8, 9, 10, 11, 12, 13, 14, 15, 16, 17, 18, 19, 20, 21], [0, 1, 2, 3, 4, 5, 6, 7, 8, 9, 10, 11, 12, 13, 14, 15, 16, 17, 18, 19, 20, 21, 22], [0, 1, 2, 3, 4, 5, 6, 7, 8, 9, 10, 11, 12, 13, 14, 15, 16, 17, 18, 19, 20, 21, 22, 23], [0, 1, 2, 3, 4, 5, 6, 7, 8, 9, 10, 11, 12, 13, 14, 15, 16, 17, 18, 19, 20, 21, 22, 23, 24], [0, 1, 2, 3, 4, 5, 6, 7, 8, 9, 10, 11, 12, 13, 14, 15, 16, 17, 18, 19, 20, 21, 22, 23, 24, 25], [0, 1, 2, 3, 4, 5, 6, 7, 8, 9, 10, 11, 12, 13, 14, 15, 16, 17, 18, 19, 20, 21, 22, 23, 24, 25, 26], [0, 1, 2, 3, 4, 5, 6, 7, 8, 9, 10, 11, 12, 13, 14, 15, 16, 17, 18, 19, 20, 21, 22, 23, 24, 25, 26, 27], [0, 1, 2, 3, 4, 5, 6, 7, 8, 9, 10, 11, 12, 13, 14, 15, 16, 17, 18, 19, 20, 21, 22, 23, 24, 25, 26, 27, 28], [0, 1, 2, 3, 4, 5, 6, 7, 8, 9, 10, 11, 12, 13, 14, 15, 16, 17, 18, 19, 20, 21, 22, 23, 24, 25, 26, 27, 28, 29], [0, 1, 2, 3, 4, 5, 6, 7, 8, 9, 10, 11, 12, 13, 14, 15, 16, 17, 18, 19, 20, 21, 22, 23, 24, 25, 26, 27, 28, 29, 30], [0, 1, 2, 3, 4, 5, 6, 7, 8, 9, 10, 11, 12, 13, 14, 15, 16, 17, 18, 19, 20, 21, 22, 23, 24, 25, 26, 27, 28, 29, 30, 31], [0, 1, 2, 3, 4, 5, 6, 7, 8, 9, 10, 11, 12, 13, 14, 15, 16, 17, 18, 19, 20, 21, 22, 23, 24, 25, 26, 27, 28, 29, 30, 31, 32]] (rel [is (.int .i64 0),
   is (.bool true),
   is (.bool true),
   is (.int .i64 0),
   is (.bool true),
   is (.bool true),
   is (.bool true),
   is (.bool sc),
   is (.bool (!sc)),
   is (.bool (!sc)),
   gd (!sc) false (is (.bool sa)),
   is (.bool ((!sc) || sa)),
   is (.bool ((!sc) || sa)),
   is (.bool ((!sc) || sa)),
   gd ((!sc) || sa) true (is (.bool pd)),
   gd ((!sc) || sa) true (is (.bool (!pd))),
   gd ((!sc) || sa) true (is (.bool (!pd))),
   gd ((!sc) || sa) true (gd (!pd) false (is (.bool pa))),
   gd ((!sc) || sa) true (is (.bool ((!pd) || pa))),
   is (.bool (((!sc) || sa) && ((!pd) || pa))),
   is (.bool (((!sc) || sa) && ((!pd) || pa))),
   gd (((!sc) || sa) && ((!pd) || pa)) true (is (.bool sa)),
   gd (((!sc) || sa) && ((!pd) || pa)) true (is (.bool (!sa))),
   gd (((!sc) || sa) && ((!pd) || pa)) true (is (.bool (!sa))),
   gd (((!sc) || sa) && ((!pd) || pa)) true (gd (!sa) false (is (.bool pa))),
   gd (((!sc) || sa) && ((!pd) || pa)) true (is (.bool ((!sa) || pa))),
   is (.bool ((((!sc) || sa) && ((!pd) || pa)) && ((!sa) || pa))),
   is (.bool ((((!sc) || sa) && ((!pd) || pa)) && ((!sa) || pa))),
   gd ((((!sc) || sa) && ((!pd) || pa)) && ((!sa) || pa)) true (is (.bool true)),
   is (.bool ((((!sc) || sa) && ((!pd) || pa)) && ((!sa) || pa))),
   is (.bool ((((!sc) || sa) && ((!pd) || pa)) && ((!sa) || pa))),
   gd ((((!sc) || sa) && ((!pd) || pa)) && ((!sa) || pa)) true (is (.bool true)),
   is (.bool ((((!sc) || sa) && ((!pd) || pa)) && ((!sa) || pa))),
   is (.bool ((((!sc) || sa) && ((!pd) || pa)) && ((!sa) || pa)))])
  ⟨is_k, is_k, is_k, is_k, is_k, is_k, is_k, is_k, is_k, is_k, gd_k (is_k), is_k, is_k, is_k, gd_k (is_k), gd_k (is_k), gd_k (is_k), gd_k (gd_k (is_k)), gd_k (is_k), is_k, is_k, gd_k (is_k), gd_k (is_k), gd_k (is_k), gd_k (gd_k (is_k)), gd_k (is_k), is_k, is_k, gd_k (is_k), is_k, is_k, gd_k (is_k), is_k, is_k, trivial⟩
  ⟨fun f s W g i l m n a => opv rfl rfl (by simp [go_sem, a.e 21 k23_21]) rfl,
  fun f s W g i l m n a => opv rfl rfl (by simp [go_sem, a.e 171 (i 0 rfl)]) rfl,
  fun f s W g i l m n a => opv rfl rfl (by simp [go_sem, a.e 172 (i 1 rfl)]) rfl,
  fun f s W g i l m n a => osure rfl rfl (a.says (d := 173) rfl rfl (i 2 rfl)) (gv (by simp [go_sem, a.e 24 k23_24]) rfl),
  fun f s W g i l m n a => osure rfl rfl (a.says (d := 173) rfl rfl (i 2 rfl)) (gv (by simp [go_sem, a.e 174 (i 3 rfl)]) rfl),
  fun f s W g i l m n a => opk (c := true) rfl rfl (fun h => absurd h (by decide)) (fun _ => by simp [go_sem, a.e 173 (i 2 rfl), a.e 175 (i 4 rfl)]),
  fun f s W g i l m n a => opv rfl rfl (by simp [go_sem, a.e 176 (i 5 rfl)]) rfl,
  fun f s W g i l m n a => osure rfl rfl (a.says (d := 177) rfl rfl (i 6 rfl)) (gv (by simp [go_sem, a.e 22 k23_22]) rfl),
  fun f s W g i l m n a => osure rfl rfl (a.says (d := 177) rfl rfl (i 6 rfl)) (gv (by simp [go_sem, a.e 178 (i 7 rfl)]) rfl),
  fun f s W g i l m n a => osure rfl rfl (a.says (d := 177) rfl rfl (i 6 rfl)) (gv (by simp [go_sem, a.e 179 (i 8 rfl)]) rfl),
  fun f s W g i l m n a => gdo rfl rfl (a.says (d := 180) rfl rfl (i 9 rfl)) fun hgd0 => gv (by simp [go_sem, a.e 19 k23_19]) rfl,
  fun f s W g i l m n a => osure rfl rfl (a.says (d := 177) rfl rfl (i 6 rfl)) (gk (c := !sc) (fun hpk => by simp [go_sem, hpk, a.e 180 (i 9 rfl), a.e 181 ((i 10 rfl).1 hpk)]) (fun hpk => by simp [go_sem, hpk, a.e 180 (i 9 rfl)])),
  fun f s W g i l m n a => opk (c := true) rfl rfl (fun h => absurd h (by decide)) (fun _ => by simp [go_sem, a.e 177 (i 6 rfl), a.e 182 (i 11 rfl)]),
  fun f s W g i l m n a => opv rfl rfl (by simp [go_sem, a.e 183 (i 12 rfl)]) rfl,
  fun f s W g i l m n a => gdo rfl rfl (a.says (d := 184) rfl rfl (i 13 rfl)) fun hgd0 => gv (by simp [go_sem, a.e 23 k23_23]) rfl,
  fun f s W g i l m n a => gdo rfl rfl (a.says (d := 184) rfl rfl (i 13 rfl)) fun hgd0 => gv (by simp [go_sem, a.e 185 ((i 14 rfl).1 hgd0)]) rfl,
  fun f s W g i l m n a => gdo rfl rfl (a.says (d := 184) rfl rfl (i 13 rfl)) fun hgd0 => gv (by simp [go_sem, a.e 186 ((i 15 rfl).1 hgd0)]) rfl,
  fun f s W g i l m n a => gdo2 rfl rfl a (d := 187) rfl rfl (i 16 rfl) fun hgd0 hgd1 => gv (by simp [go_sem, a.e 20 k23_20]) rfl,
  fun f s W g i l m n a => gdo rfl rfl (a.says (d := 184) rfl rfl (i 13 rfl)) fun hgd0 => gk (c := !pd) (fun hpk => by simp [go_sem, hpk, a.e 187 ((i 16 rfl).1 hgd0), a.e 188 (((i 17 rfl).1 hgd0).1 hpk)]) (fun hpk => by simp [go_sem, hpk, a.e 187 ((i 16 rfl).1 hgd0)]),
  fun f s W g i l m n a => opk (c := (!sc) || sa) rfl rfl (fun hpk => by simp [go_sem, hpk, a.e 184 (i 13 rfl)]) (fun hpk => by simp [go_sem, hpk, a.e 184 (i 13 rfl), a.e 189 ((i 18 rfl).1 hpk)]),
  fun f s W g i l m n a => opv rfl rfl (by simp [go_sem, a.e 190 (i 19 rfl)]) rfl,
  fun f s W g i l m n a => gdo rfl rfl (a.says (d := 191) rfl rfl (i 20 rfl)) fun hgd0 => gv (by simp [go_sem, a.e 19 k23_19]) rfl,
  fun f s W g i l m n a => gdo rfl rfl (a.says (d := 191) rfl rfl (i 20 rfl)) fun hgd0 => gv (by simp [go_sem, a.e 192 ((i 21 rfl).1 hgd0)]) rfl,
  fun f s W g i l m n a => gdo rfl rfl (a.says (d := 191) rfl rfl (i 20 rfl)) fun hgd0 => gv (by simp [go_sem, a.e 193 ((i 22 rfl).1 hgd0)]) rfl,
  fun f s W g i l m n a => gdo2 rfl rfl a (d := 194) rfl rfl (i 23 rfl) fun hgd0 hgd1 => gv (by simp [go_sem, a.e 20 k23_20]) rfl,
  fun f s W g i l m n a => gdo rfl rfl (a.says (d := 191) rfl rfl (i 20 rfl)) fun hgd0 => gk (c := !sa) (fun hpk => by simp [go_sem, hpk, a.e 194 ((i 23 rfl).1 hgd0), a.e 195 (((i 24 rfl).1 hgd0).1 hpk)]) (fun hpk => by simp [go_sem, hpk, a.e 194 ((i 23 rfl).1 hgd0)]),
  fun f s W g i l m n a => opk (c := ((!sc) || sa) && ((!pd) || pa)) rfl rfl (fun hpk => by simp [go_sem, hpk, a.e 191 (i 20 rfl)]) (fun hpk => by simp [go_sem, hpk, a.e 191 (i 20 rfl), a.e 196 ((i 25 rfl).1 hpk)]),
  fun f s W g i l m n a => opv rfl rfl (by simp [go_sem, a.e 197 (i 26 rfl)]) rfl,
  fun f s W g i l m n a => gdo rfl rfl (a.says (d := 198) rfl rfl (i 27 rfl)) fun hgd0 => gc (by simp [go_sem]) (pubBoard_yes W),
  fun f s W g i l m n a => opk (c := (((!sc) || sa) && ((!pd) || pa)) && ((!sa) || pa)) rfl rfl (fun hpk => by simp [go_sem, hpk, a.e 198 (i 27 rfl)]) (fun hpk => by simp [go_sem, hpk, a.e 198 (i 27 rfl), a.e 199 ((i 28 rfl).1 hpk)]),
  fun f s W g i l m n a => opv rfl rfl (by simp [go_sem, a.e 200 (i 29 rfl)]) rfl,
  fun f s W g i l m n a => gdo rfl rfl (a.says (d := 201) rfl rfl (i 30 rfl)) fun hgd0 => gc (by simp [go_sem]) (pubScore_yes W),
  fun f s W g i l m n a => opk (c := (((!sc) || sa) && ((!pd) || pa)) && ((!sa) || pa)) rfl rfl (fun hpk => by simp [go_sem, hpk, a.e 201 (i 30 rfl)]) (fun hpk => by simp [go_sem, hpk, a.e 201 (i 30 rfl), a.e 202 ((i 31 rfl).1 hpk)]),
  fun f s W g i l m n a => opv rfl rfl (by simp [go_sem, a.e 203 (i 32 rfl)]) rfl, trivial⟩ ?_
 intro f24 s24 W24 hB24 g24 hg24
 have fB24 := hB24.f fB23
 have z24 := hB24.below.size
 have b24_0 := hB24.b b23_0
 have b24_1 := hB24.b b23_1
 have b24_2 := hB24.b b23_2
 have b24_3 := hB24.b b23_3
 have b24_4 := hB24.b b23_4
 have b24_5 := hB24.b b23_5
 have b24_6 := hB24.b b23_6
 have b24_7 := hB24.b b23_7
 have b24_8 := hB24.b b23_8
 have q223' := (q216'.below hB24.below)
 have q224' := (q217'.below hB24.below)
 have q225' := (q218'.below hB24.below)
 have q226' := (q219'.below hB24.below)
 have q227' := (q220'.below hB24.below)
 have q228' := (q221'.bw hB24)
 have q229' := (q222'.bw hB24)
 refine hK21 _ _ ?_
 have k24_4 := kt hg24 4 (hB24.is 33)
 refine wp_ret ?_
 refine leave_one (N := 204) (v := .bool ((((!sc) || sa) && ((!pd) || pa)) && ((!sa) || pa))) (.inr rfl) Try.results5 rfl k24_4 ?_
 exact ⟨by rw [show ((((!sc) || sa) && ((!pd) || pa)) && ((!sa) || pa)) = true from (by revert hfin; cases sa <;> cases pa <;> cases sc <;> cases pd <;> simp)], fB24⟩
end Go.Proofs.Ytiocklgakklkpaa
