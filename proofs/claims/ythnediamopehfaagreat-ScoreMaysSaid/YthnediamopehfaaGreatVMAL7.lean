/- Part of the proof: what the claim leans on. -/
import Derived.Test.YthnediamopehfaaGreatVMAL6
set_option maxHeartbeats 8000000
set_option maxRecDepth 100000
set_option linter.unusedSimpArgs false
set_option linter.unusedVariables false
namespace Go.Proofs.YthnediamopehfaaGreat
open Go.RowKit
theorem mays_bad1 (a1 a2 a3 : Option Addr) (c1 c2 c3 : Nat) (b : Bl) (l1 h1' l2 h2' l3 h3' l4 h4' l5 h5' : Int) (wo : Bool) (lo hi off : Int) (w : World) (h1 : Ii w a1 b.panels.length c1 b.panels) (h2 : Ii w a2 b.top.length c2 b.top) (h3 : Ii w a3 b.bottom.length c3 b.bottom) (E : Int) (hE : wishedErr b ⟨(l1, h1'), (l2, h2'), (l3, h3'), (l4, h4'), (l5, h5'), wo⟩ [(lo, hi)] = E) (hn : (E != 0) = true) :
  Calls Tryz.prog 6 #[.agg #[.int .i64 b.tab, .slice a1 (b.panels.length) c1, .int .i64 b.height, .slice a2 (b.top.length) c2, .slice a3 (b.bottom.length) c3, .int .i64 b.slot, .bool b.isOpen], .agg #[.int .i64 l1, .int .i64 (h1'), .int .i64 l2, .int .i64 (h2'), .int .i64 l3, .int .i64 (h3'), .int .i64 l4, .int .i64 (h4'), .int .i64 l5, .int .i64 (h5'), .bool wo], .agg #[.int .i64 lo, .int .i64 hi, .int .i64 off]] w (fun e w' => e = .returned (.bool true) ∧ Below w.heap.size w w') := by
 have hm1 := h1.len_le
 have hm2 := h2.len_le
 have hm3 := h3.len_le
 have hn0 : (E == 0) = false := beq_eq_false_iff_ne.2 (bne_iff_ne.1 hn)
 refine calls_fr Tryz.func6 Tryz.ntmps6 rfl rfl fun g hg => ?_
 have k0 : g 0 = .agg #[.int .i64 b.tab, .slice a1 (b.panels.length) c1, .int .i64 b.height, .slice a2 (b.top.length) c2, .slice a3 (b.bottom.length) c3, .int .i64 b.slot, .bool b.isOpen] := hg 0
 have k1 : g 1 = .agg #[.int .i64 l1, .int .i64 (h1'), .int .i64 l2, .int .i64 (h2'), .int .i64 l3, .int .i64 (h3'), .int .i64 l4, .int .i64 (h4'), .int .i64 l5, .int .i64 (h5'), .bool wo] := hg 1
 have k2 : g 2 = .agg #[.int .i64 lo, .int .i64 hi, .int .i64 off] := hg 2
 clear hg
 have fB0 : Below w.heap.size w w := Below.refl _ _
 refine rw_ 4 [(3, 0), (4, 1), (5, 2), (6, 3)] [[], [], [], []] (rel [bx 0 #[.int .i64 b.tab, .slice a1 (b.panels.length) c1, .int .i64 b.height, .slice a2 (b.top.length) c2, .slice a3 (b.bottom.length) c3, .int .i64 b.slot, .bool b.isOpen] 24, bx 1 #[.int .i64 l1, .int .i64 (h1'), .int .i64 l2, .int .i64 (h2'), .int .i64 l3, .int .i64 (h3'), .int .i64 l4, .int .i64 (h4'), .int .i64 l5, .int .i64 (h5'), .bool wo] 43, bx 2 #[.int .i64 lo, .int .i64 hi, .int .i64 off] 63, iB false])
  ⟨fun f s W i j l m n a => opb rfl rfl (by simp [go_sem, a.e 0 k0]),
  fun f s W i j l m n a => opb rfl rfl (by simp [go_sem, a.e 1 k1]),
  fun f s W i j l m n a => opb rfl rfl (by simp [go_sem, a.e 2 k2]),
  fun f s W i j l m n a => opz, trivial⟩ ?_
 intro f1 s1 W1 hB1 g1 hg1 z1
 have fB1 := hB1.f fB0
 obtain ⟨r1_0, br1_0⟩ := hB1.is 0
 have lr1_0 := hB1.lr 0 br1_0
 obtain ⟨r1_1, br1_1⟩ := hB1.is 1
 have lr1_1 := hB1.lr 1 br1_1
 obtain ⟨r1_2, br1_2⟩ := hB1.is 2
 have lr1_2 := hB1.lr 2 br1_2
 have ne1_0_1 := hB1.nb 0 1
 have ne1_0_2 := hB1.nb 0 2
 have ne1_1_2 := hB1.nb 1 2
 have k1_3 := kt hg1 3 r1_0
 have k1_4 := kt hg1 4 r1_1
 have k1_5 := kt hg1 5 r1_2
 refine rw_ 6 [(12, 0), (13, 1), (14, 2), (15, 3), (16, 4), (7, 5)] [[], [], [], [2], [0, 1, 3], [4]] (rel [is (.agg #[.int .i64 b.tab, .slice a1 (b.panels.length) c1, .int .i64 b.height, .slice a2 (b.top.length) c2, .slice a3 (b.bottom.length) c3, .int .i64 b.slot, .bool b.isOpen]), is (.agg #[.int .i64 l1, .int .i64 (h1'), .int .i64 l2, .int .i64 (h2'), .int .i64 l3, .int .i64 (h3'), .int .i64 l4, .int .i64 (h4'), .int .i64 l5, .int .i64 (h5'), .bool wo]), is (.pointer (some ⟨(s1 2), 0, none⟩)), is (.agg #[.int .i64 lo, .int .i64 hi]), iI E, iI E])
  ⟨fun f s W i j l m n a => opv rfl rfl (by simp [go_sem, a.e 3 k1_3, cb br1_0 i 0, cb br1_0 i 1, cb br1_0 i 2, cb br1_0 i 3, cb br1_0 i 4, cb br1_0 i 5, cb br1_0 i 6]) rfl,
  fun f s W i j l m n a => opv rfl rfl (by simp [go_sem, a.e 4 k1_4, cb br1_1 i 0, cb br1_1 i 1, cb br1_1 i 2, cb br1_1 i 3, cb br1_1 i 4, cb br1_1 i 5, cb br1_1 i 6, cb br1_1 i 7, cb br1_1 i 8, cb br1_1 i 9, cb br1_1 i 10]) rfl,
  fun f s W i j l m n a => opv rfl rfl (by simp [go_sem, a.e 5 k1_5]) rfl,
  fun f s W i j l m n a => opv rfl rfl (by simp [go_sem, a.e 14 (j 2 rfl), cb br1_2 i 0, cb br1_2 i 1]) rfl,
  fun f s W i j l m n a => by have p := bwt fB1 i; exact opd rfl rfl (by simp [go_sem, a.e 12 (j 0 rfl), a.e 13 (j 1 rfl), a.e 15 (j 3 rfl)]) (askedR_any a1 a2 a3 c1 c2 c3 b l1 h1' l2 h2' l3 h3' l4 h4' l5 h5' wo lo hi W (h1.below p (Nat.le_refl _)) (h2.below p (Nat.le_refl _)) (h3.below p (Nat.le_refl _))) ((fun e W' h => by have h1 := h.1; rw [askedR_eq, hE] at h1; exact ⟨_, h1, h.2, rfl⟩)),
  fun f s W i j l m n a => opm (a.v 16 (j 4 rfl)), trivial⟩ ?_
 intro f2 s2 W2 hB2 g2 hg2 z2
 have k2_7 := kt hg2 7 (hB2.is 5)
 refine wp_seq_k fun K3 hK3 => ?_
 refine rx 8 [(17, 0), (18, 1), (19, 2), (20, 3), (21, 4), (22, 5), (23, 6), (24, 7)] [[], [0], [1], [2], [2], [2], [2], [2]] (rel [iI E, iB false, iB false, gd (false) true (fun _ _ _ => True), gd (false) true (fun _ _ _ => True), gd (false) true (fun _ _ _ => True), gd (false) true (fun _ _ _ => True), iB false])
  ⟨is_k, is_k, is_k, gdt_k, gdt_k, gdt_k, gdt_k, is_k, trivial⟩
  ⟨fun f s W i j l m n a => opm (a.v 7 k2_7),
  fun f s W i j l m n a => opv rfl rfl (by simp [go_sem, a.e 17 (j 0 rfl), hn0]) rfl,
  fun f s W i j l m n a => opm (a.v 18 (j 1 rfl)),
  fun f s W i j l m n a => gno (a.says (d := 19) rfl rfl (j 2 rfl)),
  fun f s W i j l m n a => gno (a.says (d := 19) rfl rfl (j 2 rfl)),
  fun f s W i j l m n a => gno (a.says (d := 19) rfl rfl (j 2 rfl)),
  fun f s W i j l m n a => gno (a.says (d := 19) rfl rfl (j 2 rfl)),
  fun f s W i j l m n a => opk (c := false) rfl rfl (fun _ => by simp [go_sem, a.e 19 (j 2 rfl)]) (fun h => absurd h (by decide)), trivial⟩ ?_
 intro f3 s3 W3 hB3 g3 hg3 z3
 have fB3 := hB3.f (hB2.f fB1)
 have b3_0 := hB3.b (hB2.b br1_0)
 have k3_3 := kt hg3 3 (kt hg2 3 k1_3)
 have k3_7 := kt hg3 7 k2_7
 have k3_24 := kt hg3 24 (hB3.is 7)
 refine wp_cond_false ((fr_eval rfl).trans k3_24) ?_
 refine wp_skip ?_
 refine hK3 _ _ ?_
 refine wp_seq_k fun K6 hK6 => ?_
 refine rx 16 [(25, 0), (26, 1), (27, 2), (28, 3), (29, 4), (30, 5), (31, 6), (32, 7), (33, 8), (34, 9), (35, 10), (36, 11), (37, 12), (38, 13), (39, 14), (40, 15)] [[], [0], [1], [2], [2, 3], [2, 4], [5], [5], [5], [5], [5], [5], [5], [5], [2, 5], [2, 14]] (rel [is (.agg #[.int .i64 b.tab, .slice a1 (b.panels.length) c1, .int .i64 b.height, .slice a2 (b.top.length) c2, .slice a3 (b.bottom.length) c3, .int .i64 b.slot, .bool b.isOpen]), iB (largeB b), iB (largeB b), gd (largeB b) false (iI E), gd (largeB b) false (iB false), gd (largeB b) false (iB false), gd (largeB b) false (gd (false) true (fun _ _ _ => True)), gd (largeB b) false (gd (false) true (fun _ _ _ => True)), gd (largeB b) false (gd (false) true (fun _ _ _ => True)), gd (largeB b) false (gd (false) true (fun _ _ _ => True)), gd (largeB b) false (gd (false) true (fun _ _ _ => True)), gd (largeB b) false (gd (false) true (fun _ _ _ => True)), gd (largeB b) false (gd (false) true (fun _ _ _ => True)), gd (largeB b) false (gd (false) true (fun _ _ _ => True)), gd (largeB b) false (iB false), iB (largeB b)])
  ⟨is_k, is_k, is_k, gd_k (is_k), gd_k (is_k), gd_k (is_k), gd_k (gdt_k), gd_k (gdt_k), gd_k (gdt_k), gd_k (gdt_k), gd_k (gdt_k), gd_k (gdt_k), gd_k (gdt_k), gd_k (gdt_k), gd_k (is_k), is_k, trivial⟩
  ⟨fun f s W i j l m n a => opv rfl rfl (by simp [go_sem, a.e 3 k3_3, cb b3_0 i 0, cb b3_0 i 1, cb b3_0 i 2, cb b3_0 i 3, cb b3_0 i 4, cb b3_0 i 5, cb b3_0 i 6]) rfl,
  fun f s W i j l m n a => by have p := bwt fB3 i; exact opc rfl rfl (by simp [go_sem, a.e 25 (j 0 rfl)]) (large_any a1 a2 a3 c1 c2 c3 b W (h1.below p (Nat.le_refl _)) (h2.below p (Nat.le_refl _)) (h3.below p (Nat.le_refl _))),
  fun f s W i j l m n a => opm (a.v 26 (j 1 rfl)),
  fun f s W i j l m n a => gdo rfl rfl (a.says (d := 27) rfl rfl (j 2 rfl)) fun hgd0 => gv (by simp [go_sem, a.e 7 k3_7]) rfl,
  fun f s W i j l m n a => gdo rfl rfl (a.says (d := 27) rfl rfl (j 2 rfl)) fun hgd0 => gv (by simp [go_sem, a.e 28 ((j 3 rfl).1 hgd0), hn0]) rfl,
  fun f s W i j l m n a => gdo rfl rfl (a.says (d := 27) rfl rfl (j 2 rfl)) fun hgd0 => gv (by simp [go_sem, a.e 29 ((j 4 rfl).1 hgd0)]) rfl,
  fun f s W i j l m n a => gdo2 (s := upd s 6 W.heap.size) rfl rfl a (d := 30) rfl rfl (j 5 rfl) fun _ h2 => absurd h2 (by decide),
  fun f s W i j l m n a => gdo2 (s := upd s 7 W.heap.size) rfl rfl a (d := 30) rfl rfl (j 5 rfl) fun _ h2 => absurd h2 (by decide),
  fun f s W i j l m n a => gdo2 (s := upd s 8 W.heap.size) rfl rfl a (d := 30) rfl rfl (j 5 rfl) fun _ h2 => absurd h2 (by decide),
  fun f s W i j l m n a => gdo2 (s := upd s 9 W.heap.size) rfl rfl a (d := 30) rfl rfl (j 5 rfl) fun _ h2 => absurd h2 (by decide),
  fun f s W i j l m n a => gdo2 (s := upd s 10 W.heap.size) rfl rfl a (d := 30) rfl rfl (j 5 rfl) fun _ h2 => absurd h2 (by decide),
  fun f s W i j l m n a => gdo2 (s := upd s 11 W.heap.size) rfl rfl a (d := 30) rfl rfl (j 5 rfl) fun _ h2 => absurd h2 (by decide),
  fun f s W i j l m n a => gdo2 (s := upd s 12 W.heap.size) rfl rfl a (d := 30) rfl rfl (j 5 rfl) fun _ h2 => absurd h2 (by decide),
  fun f s W i j l m n a => gdo2 (s := upd s 13 W.heap.size) rfl rfl a (d := 30) rfl rfl (j 5 rfl) fun _ h2 => absurd h2 (by decide),
  fun f s W i j l m n a => gdo rfl rfl (a.says (d := 27) rfl rfl (j 2 rfl)) fun hgd0 => gk (c := false) (fun _ => by simp [go_sem, a.e 30 ((j 5 rfl).1 hgd0)]) (fun h => absurd h (by decide)),
  fun f s W i j l m n a => opk (c := largeB b) rfl rfl (fun hpk => by simp [go_sem, hpk, a.e 27 (j 2 rfl), a.e 39 ((j 14 rfl).1 hpk)]) (fun hpk => by simp [go_sem, hpk, a.e 27 (j 2 rfl)]), trivial⟩ ?_
 intro f4 s4 W4 hB4 g4 hg4 z4
 have fB4 := hB4.f fB3
 have b4_0 := hB4.b b3_0
 have k4_3 := kt hg4 3 k3_3
 have k4_40 := kt hg4 40 (hB4.is 15)
 refine wp_cond_split (t := largeB b) ((fr_eval rfl).trans k4_40) (fun hc8 => ?_) (fun hc8 => ?_)
 ·
  have hc8' := hc8; try simp only [ba] at hc8'
  refine rw_ 2 [(41, 0), (6, 1)] [[], [0]] (rel [iB true, iB true])
   ⟨fun f s W i j l m n a => opc rfl rfl (by simp [go_sem]) (known_any W),
  fun f s W i j l m n a => opm (a.v 41 (j 0 rfl)), trivial⟩ ?_
  intro f5 s5 W5 hB5 g5 hg5 z5
  have fB5 := hB5.f fB4
  have k5_6 := kt hg5 6 (hB5.is 1)
  refine wp_ret ?_
  refine then_ret ?_
  refine leave_one (N := 105) (.inr rfl) Tryz.results6 rfl k5_6 ?_
  exact ⟨rfl, fB5⟩
 ·
  have hc8' := hc8; try simp only [ba] at hc8'
  have hl : largeB b = false := by simpa using hc8
  obtain ⟨m1, m2, m3⟩ := large_false hl
  have n1 : b.panels.length ≤ 1000 := by omega
  have n2 : b.top.length ≤ 1000 := by omega
  have n3 : b.bottom.length ≤ 1000 := by omega
  refine wp_skip ?_
  refine hK6 _ _ ?_
  refine wp_seq_k fun K10 hK10 => ?_
  refine rz 3 [(42, 0), (43, 1), (8, 2)] [[], [0], [], [0, 1, 2]] (rel [is (.agg #[.int .i64 b.tab, .slice a1 (b.panels.length) c1, .int .i64 b.height, .slice a2 (b.top.length) c2, .slice a3 (b.bottom.length) c3, .int .i64 b.slot, .bool b.isOpen]), fun v s W => NwBlk (s 1) (b) v W, bx 2 #[.int .i64 0, .slice none 0 0, .int .i64 0, .slice none 0 0, .slice none 0 0, .int .i64 0, .bool false] 24])
   ⟨is_k, ⟨fun v k W W' hb h => h.below hb, fun v s s' W e h => by have h' : NwBlk (s 1) (b) v W := h; show NwBlk (s' 1) (b) v W; rw [← e 1 (by simp)]; exact h'⟩, bx_k, trivial⟩
   ⟨fun f s W i j l m n a => opv rfl rfl (by simp [go_sem, a.e 3 k4_3, cb b4_0 i 0, cb b4_0 i 1, cb b4_0 i 2, cb b4_0 i 3, cb b4_0 i 4, cb b4_0 i 5, cb b4_0 i 6]) rfl,
  fun f s W i j l m n a => by have p := bwt fB4 i; exact opd rfl rfl (by simp [go_sem, a.e 42 (j 0 rfl)]) (own_any a1 a2 a3 c1 c2 c3 b W (h1.below p (Nat.le_refl _)) (h2.below p (Nat.le_refl _)) (h3.below p (Nat.le_refl _)) n1 n2 n3) (fun e W' h => by obtain ⟨v, e1, h1, h2⟩ := h; exact ⟨v, e1, h2, (show NwBlk (upd s 1 W.heap.size 1) (b) v W' from by rw [upd_at]; exact h1)⟩),
  fun f s W i j l m n a => opb rfl rfl (by simp [go_sem]), trivial⟩ ?_
  intro f6 s6 W6 hB6 g6 hg6 z6
  have fB6 := hB6.f fB4
  have b6_0 := hB6.b b4_0
  have b6_1 := hB6.b (hB4.b (hB3.b (hB2.b br1_1)))
  have b6_2 := hB6.b (hB4.b (hB3.b (hB2.b br1_2)))
  have la6_1_1 := hB6.from' 1 (by decide)
  obtain ⟨g1', c4', g2', c5', g3', c6', r6_1, ⟨q7', q9', q8'⟩, ⟨q10', q12', q11'⟩, ⟨q13', q15', q14'⟩⟩ := hB6.is 1
  obtain ⟨r6_2, br6_2⟩ := hB6.is 2
  have lr6_2 := hB6.lr 2 br6_2
  have la6_1 := hB6.from' 1 (by decide)
  have of6_1_2_0 := hB6.off 1 2 (by decide) (by decide) (by decide) q9' (fun W h => (NwBlk.lt h r6_1).1) (fun _ _ _ h => ltb h.2)
  have of6_1_2_1 := hB6.off 1 2 (by decide) (by decide) (by decide) q12' (fun W h => (NwBlk.lt h r6_1).2.1) (fun _ _ _ h => ltb h.2)
  have of6_1_2_2 := hB6.off 1 2 (by decide) (by decide) (by decide) q15' (fun W h => (NwBlk.lt h r6_1).2.2) (fun _ _ _ h => ltb h.2)
  have k6_4 := kt hg6 4 (kt hg4 4 (kt hg3 4 (kt hg2 4 k1_4)))
  have k6_5 := kt hg6 5 (kt hg4 5 (kt hg3 5 (kt hg2 5 k1_5)))
  have k6_43 := kt hg6 43 r6_1
  have k6_8 := kt hg6 8 r6_2
  obtain ⟨W7, hW7⟩ : ∃ W', W' = W6.setRow (s6 2) #[.int .i64 b.tab, .slice (some ⟨g1', 0, none⟩) (b.panels.length) c4', .int .i64 b.height, .slice (some ⟨g2', 0, none⟩) (b.top.length) c5', .slice (some ⟨g3', 0, none⟩) (b.bottom.length) c6', .int .i64 b.slot, .bool b.isOpen] := ⟨_, rfl⟩
  refine tsk (o := _) rfl ⟨rfl, rfl⟩ (run_seg hW7 (fr_ev k6_8) (fr_ev k6_43) br6_2 rfl rfl rfl rfl) ?_
  obtain ⟨fB7, nb7, ot7, z7⟩ := sgf hW7 fB6 br6_2 (by omega)
  clear hW7
  have b7_0 := ot7 _ _ (by omega) b6_0
  have b7_1 := ot7 _ _ (by omega) b6_1
  have b7_2 := ot7 _ _ (by omega) b6_2
  have q16' := (q7'.other ot7 q8' (by omega) z7)
  have q17' := Nat.lt_of_lt_of_le q8' z7
  have q18' := (q10'.other ot7 q11' (by omega) z7)
  have q19' := Nat.lt_of_lt_of_le q11' z7
  have q20' := (q13'.other ot7 q14' (by omega) z7)
  have q21' := Nat.lt_of_lt_of_le q14' z7
  refine wpe ?_
  refine hK10 _ _ ?_
  refine rw_ 12 [(45, 0), (46, 1), (47, 2), (48, 3), (49, 4), (50, 5), (51, 6), (44, 7), (52, 8), (53, 9), (9, 10), (10, 11)] [[], [], [], [2], [], [4], [0, 1, 3, 5], [6], [7], [7], [8], [9]] (rel [is (.agg #[.int .i64 b.tab, .slice (some ⟨g1', 0, none⟩) (b.panels.length) c4', .int .i64 b.height, .slice (some ⟨g2', 0, none⟩) (b.top.length) c5', .slice (some ⟨g3', 0, none⟩) (b.bottom.length) c6', .int .i64 b.slot, .bool b.isOpen]), is (.agg #[.int .i64 l1, .int .i64 (h1'), .int .i64 l2, .int .i64 (h2'), .int .i64 l3, .int .i64 (h3'), .int .i64 l4, .int .i64 (h4'), .int .i64 l5, .int .i64 (h5'), .bool wo]), is (.pointer (some ⟨(s1 2), 0, none⟩)), is (.agg #[.int .i64 lo, .int .i64 hi]), is (.pointer (some ⟨(s1 2), 2, none⟩)), iI off, is (.tuple #[.int .i64 0, .int .i64 E]), is (.tuple #[.int .i64 0, .int .i64 E]), iI 0, iI E, iI 0, iI E])
   ⟨fun f s W i j l m n a => opv rfl rfl (by simp [go_sem, a.e 8 k6_8, cb nb7 i 0, cb nb7 i 1, cb nb7 i 2, cb nb7 i 3, cb nb7 i 4, cb nb7 i 5, cb nb7 i 6]) rfl,
  fun f s W i j l m n a => opv rfl rfl (by simp [go_sem, a.e 4 k6_4, cb b7_1 i 0, cb b7_1 i 1, cb b7_1 i 2, cb b7_1 i 3, cb b7_1 i 4, cb b7_1 i 5, cb b7_1 i 6, cb b7_1 i 7, cb b7_1 i 8, cb b7_1 i 9, cb b7_1 i 10]) rfl,
  fun f s W i j l m n a => opv rfl rfl (by simp [go_sem, a.e 5 k6_5]) rfl,
  fun f s W i j l m n a => opv rfl rfl (by simp [go_sem, a.e 47 (j 2 rfl), cb b7_2 i 0, cb b7_2 i 1]) rfl,
  fun f s W i j l m n a => opv rfl rfl (by simp [go_sem, a.e 5 k6_5]) rfl,
  fun f s W i j l m n a => opv rfl rfl (by simp [go_sem, a.e 49 (j 4 rfl), cb b7_2 i 2]) rfl,
  fun f s W i j l m n a => opd (args := #[.agg #[.int .i64 b.tab, .slice (some ⟨g1', 0, none⟩) (b.panels.length) c4', .int .i64 b.height, .slice (some ⟨g2', 0, none⟩) (b.top.length) c5', .slice (some ⟨g3', 0, none⟩) (b.bottom.length) c6', .int .i64 b.slot, .bool b.isOpen], .agg #[.int .i64 l1, .int .i64 (h1'), .int .i64 l2, .int .i64 (h2'), .int .i64 l3, .int .i64 (h3'), .int .i64 l4, .int .i64 (h4'), .int .i64 l5, .int .i64 (h5'), .bool wo], .agg #[.int .i64 lo, .int .i64 hi], .int .i64 off]) rfl rfl (by simp [go_sem, a.e 45 (j 0 rfl), a.e 46 (j 1 rfl), a.e 48 (j 3 rfl), a.e 50 (j 5 rfl)]) (may_blk (b := b) ⟨(l1, h1'), (l2, h2'), (l3, h3'), (l4, h4'), (l5, h5'), wo⟩ lo hi off W ⟨_, _, _, _, _, _, _, _, _, rfl, ((q16'.below i (Nat.le_refl _))), ((q18'.below i (Nat.le_refl _))), ((q20'.below i (Nat.le_refl _)))⟩) ((fun e W' h => by have h1 := h.1; rw [mayOf_e1 hE hn] at h1; exact ⟨_, h1, h.2, rfl⟩)),
  fun f s W i j l m n a => opm (a.v 51 (j 6 rfl)),
  fun f s W i j l m n a => opv rfl rfl (by simp [go_sem, a.e 44 (j 7 rfl)]) rfl,
  fun f s W i j l m n a => opv rfl rfl (by simp [go_sem, a.e 44 (j 7 rfl)]) rfl,
  fun f s W i j l m n a => opm (a.v 52 (j 8 rfl)),
  fun f s W i j l m n a => opm (a.v 53 (j 9 rfl)), trivial⟩ ?_
  intro f8 s8 W8 hB8 g8 hg8 z8
  have fB8 := hB8.f fB7
  have b8_0 := hB8.b b7_0
  have b8_3 := hB8.b nb7
  have q22' := (q16'.bw hB8)
  have q23' := (hB8.lt q17')
  have q24' := (q18'.bw hB8)
  have q25' := (hB8.lt q19')
  have q26' := (q20'.bw hB8)
  have q27' := (hB8.lt q21')
  have k8_3 := kt hg8 3 (kt hg6 3 k4_3)
  have k8_8 := kt hg8 8 k6_8
  refine wp_seq_k fun K12 hK12 => ?_
  refine rw_ 4 [(54, 0), (55, 1), (56, 2), (57, 3)] [[], [], [0, 1], [2]] (rel [is (.agg #[.int .i64 b.tab, .slice (some ⟨g1', 0, none⟩) (b.panels.length) c4', .int .i64 b.height, .slice (some ⟨g2', 0, none⟩) (b.top.length) c5', .slice (some ⟨g3', 0, none⟩) (b.bottom.length) c6', .int .i64 b.slot, .bool b.isOpen]), is (.agg #[.int .i64 b.tab, .slice a1 (b.panels.length) c1, .int .i64 b.height, .slice a2 (b.top.length) c2, .slice a3 (b.bottom.length) c3, .int .i64 b.slot, .bool b.isOpen]), iB true, iB false])
   ⟨fun f s W i j l m n a => opv rfl rfl (by simp [go_sem, a.e 8 k8_8, cb b8_3 i 0, cb b8_3 i 1, cb b8_3 i 2, cb b8_3 i 3, cb b8_3 i 4, cb b8_3 i 5, cb b8_3 i 6]) rfl,
  fun f s W i j l m n a => opv rfl rfl (by simp [go_sem, a.e 3 k8_3, cb b8_0 i 0, cb b8_0 i 1, cb b8_0 i 2, cb b8_0 i 3, cb b8_0 i 4, cb b8_0 i 5, cb b8_0 i 6]) rfl,
  fun f s W i j l m n a => by have p := bwt fB8 i; exact opd (args := #[.agg #[.int .i64 b.tab, .slice (some ⟨g1', 0, none⟩) (b.panels.length) c4', .int .i64 b.height, .slice (some ⟨g2', 0, none⟩) (b.top.length) c5', .slice (some ⟨g3', 0, none⟩) (b.bottom.length) c6', .int .i64 b.slot, .bool b.isOpen], .agg #[.int .i64 b.tab, .slice a1 (b.panels.length) c1, .int .i64 b.height, .slice a2 (b.top.length) c2, .slice a3 (b.bottom.length) c3, .int .i64 b.slot, .bool b.isOpen]]) rfl rfl (by simp [go_sem, a.e 54 (j 0 rfl), a.e 55 (j 1 rfl)]) (same_blk (b := b) (d := b) ⟨_, _, _, _, _, _, _, _, _, rfl, ((q22'.below i (Nat.le_refl _))), ((q24'.below i (Nat.le_refl _))), ((q26'.below i (Nat.le_refl _)))⟩ ⟨_, _, _, _, _, _, _, _, _, rfl, (h1.below p (Nat.le_refl _)), (h2.below p (Nat.le_refl _)), (h3.below p (Nat.le_refl _))⟩) ((fun e W' h => by have h1 := h.1; rw [sameB_self] at h1; exact ⟨_, h1, h.2, rfl⟩)),
  fun f s W i j l m n a => opv rfl rfl (by simp [go_sem, a.e 56 (j 2 rfl)]) rfl, trivial⟩ ?_
  intro f9 s9 W9 hB9 g9 hg9 z9
  have q28' := (q22'.bw hB9)
  have q29' := (hB9.lt q23')
  have q30' := (q24'.bw hB9)
  have q31' := (hB9.lt q25')
  have q32' := (q26'.bw hB9)
  have q33' := (hB9.lt q27')
  have k9_7 := kt hg9 7 (kt hg8 7 (kt hg6 7 (kt hg4 7 k3_7)))
  have k9_57 := kt hg9 57 (hB9.is 3)
  refine wp_cond_false ((fr_eval rfl).trans k9_57) ?_
  refine wp_skip ?_
  refine hK12 _ _ ?_
  refine wp_seq_k fun K15 hK15 => ?_
  refine rw_ 2 [(58, 0), (59, 1)] [[], [0]] (rel [iI E, iB true])
   ⟨fun f s W i j l m n a => opm (a.v 7 k9_7),
  fun f s W i j l m n a => opv rfl rfl (by simp [go_sem, a.e 58 (j 0 rfl), hn]) rfl, trivial⟩ ?_
  intro f10 s10 W10 hB10 g10 hg10 z10
  have q34' := (q28'.bw hB10)
  have q35' := (hB10.lt q29')
  have q36' := (q30'.bw hB10)
  have q37' := (hB10.lt q31')
  have q38' := (q32'.bw hB10)
  have q39' := (hB10.lt q33')
  have k10_7 := kt hg10 7 k9_7
  have k10_9 := kt hg10 9 (kt hg9 9 (kt hg8 9 (hB8.is 10)))
  have k10_10 := kt hg10 10 (kt hg9 10 (kt hg8 10 (hB8.is 11)))
  have k10_59 := kt hg10 59 (hB10.is 1)
  refine wp_cond_true ((fr_eval rfl).trans k10_59) ?_
  refine rw_ 11 [(60, 0), (61, 1), (62, 2), (63, 3), (64, 4), (65, 5), (66, 6), (67, 7), (68, 8), (69, 9), (6, 10)] [[], [], [0, 1], [2], [3], [3, 4], [3, 5], [6], [7], [7, 8], [9]] (rel [iI E, iI E, iB true, iB true, iI 0, iB true, iB true, iB true, iB true, iB true, iB true])
   ⟨fun f s W i j l m n a => opm (a.v 10 k10_10),
  fun f s W i j l m n a => opm (a.v 7 k10_7),
  fun f s W i j l m n a => opv rfl rfl (by simp [go_sem, a.e 60 (j 0 rfl), a.e 61 (j 1 rfl)]) rfl,
  fun f s W i j l m n a => opm (a.v 62 (j 2 rfl)),
  fun f s W i j l m n a => osure rfl rfl (a.says (d := 63) rfl rfl (j 3 rfl)) (gv (by simp [go_sem, a.e 9 k10_9]) rfl),
  fun f s W i j l m n a => osure rfl rfl (a.says (d := 63) rfl rfl (j 3 rfl)) (gv (by simp [go_sem, a.e 64 (j 4 rfl)]) rfl),
  fun f s W i j l m n a => opk (c := true) rfl rfl (fun h => absurd h (by decide)) (fun _ => by simp [go_sem, a.e 63 (j 3 rfl), a.e 65 (j 5 rfl)]),
  fun f s W i j l m n a => opm (a.v 66 (j 6 rfl)),
  fun f s W i j l m n a => osure rfl rfl (a.says (d := 67) rfl rfl (j 7 rfl)) (gc (by simp [go_sem]) (known_any W)),
  fun f s W i j l m n a => opk (c := true) rfl rfl (fun h => absurd h (by decide)) (fun _ => by simp [go_sem, a.e 67 (j 7 rfl), a.e 68 (j 8 rfl)]),
  fun f s W i j l m n a => opm (a.v 69 (j 9 rfl)), trivial⟩ ?_
  intro f11 s11 W11 hB11 g11 hg11 z11
  have fB11 := hB11.f (hB10.f (hB9.f fB8))
  have q40' := (q34'.bw hB11)
  have q41' := (hB11.lt q35')
  have q42' := (q36'.bw hB11)
  have q43' := (hB11.lt q37')
  have q44' := (q38'.bw hB11)
  have q45' := (hB11.lt q39')
  have k11_6 := kt hg11 6 (hB11.is 10)
  refine wp_ret ?_
  refine then_ret ?_
  refine leave_one (N := 105) (.inr rfl) Tryz.results6 rfl k11_6 ?_
  exact ⟨rfl, fB11⟩
theorem mays_bad2 (a1 a2 a3 : Option Addr) (c1 c2 c3 : Nat) (b : Bl) (l1 h1' l2 h2' l3 h3' l4 h4' l5 h5' : Int) (wo : Bool) (lo hi off : Int) (w : World) (h1 : Ii w a1 b.panels.length c1 b.panels) (h2 : Ii w a2 b.top.length c2 b.top) (h3 : Ii w a3 b.bottom.length c3 b.bottom) (hl : largeB b = false) (hE : wishedErr b ⟨(l1, h1'), (l2, h2'), (l3, h3'), (l4, h4'), (l5, h5'), wo⟩ [(lo, hi)] = 0) (hio : inB off 0 5 = false) :
  Calls Tryz.prog 6 #[.agg #[.int .i64 b.tab, .slice a1 (b.panels.length) c1, .int .i64 b.height, .slice a2 (b.top.length) c2, .slice a3 (b.bottom.length) c3, .int .i64 b.slot, .bool b.isOpen], .agg #[.int .i64 l1, .int .i64 (h1'), .int .i64 l2, .int .i64 (h2'), .int .i64 l3, .int .i64 (h3'), .int .i64 l4, .int .i64 (h4'), .int .i64 l5, .int .i64 (h5'), .bool wo], .agg #[.int .i64 lo, .int .i64 hi, .int .i64 off]] w (fun e w' => e = .returned (.bool true) ∧ Below w.heap.size w w') := by
 have hm1 := h1.len_le
 have hm2 := h2.len_le
 have hm3 := h3.len_le
 obtain ⟨m1, m2, m3⟩ := large_false hl
 have n1 : b.panels.length ≤ 1000 := by omega
 have n2 : b.top.length ≤ 1000 := by omega
 have n3 : b.bottom.length ≤ 1000 := by omega
 refine calls_fr Tryz.func6 Tryz.ntmps6 rfl rfl fun g hg => ?_
 have k0 : g 0 = .agg #[.int .i64 b.tab, .slice a1 (b.panels.length) c1, .int .i64 b.height, .slice a2 (b.top.length) c2, .slice a3 (b.bottom.length) c3, .int .i64 b.slot, .bool b.isOpen] := hg 0
 have k1 : g 1 = .agg #[.int .i64 l1, .int .i64 (h1'), .int .i64 l2, .int .i64 (h2'), .int .i64 l3, .int .i64 (h3'), .int .i64 l4, .int .i64 (h4'), .int .i64 l5, .int .i64 (h5'), .bool wo] := hg 1
 have k2 : g 2 = .agg #[.int .i64 lo, .int .i64 hi, .int .i64 off] := hg 2
 clear hg
 have fB0 : Below w.heap.size w w := Below.refl _ _
 refine rw_ 4 [(3, 0), (4, 1), (5, 2), (6, 3)] [[], [], [], []] (rel [bx 0 #[.int .i64 b.tab, .slice a1 (b.panels.length) c1, .int .i64 b.height, .slice a2 (b.top.length) c2, .slice a3 (b.bottom.length) c3, .int .i64 b.slot, .bool b.isOpen] 24, bx 1 #[.int .i64 l1, .int .i64 (h1'), .int .i64 l2, .int .i64 (h2'), .int .i64 l3, .int .i64 (h3'), .int .i64 l4, .int .i64 (h4'), .int .i64 l5, .int .i64 (h5'), .bool wo] 43, bx 2 #[.int .i64 lo, .int .i64 hi, .int .i64 off] 63, iB false])
  ⟨fun f s W i j l m n a => opb rfl rfl (by simp [go_sem, a.e 0 k0]),
  fun f s W i j l m n a => opb rfl rfl (by simp [go_sem, a.e 1 k1]),
  fun f s W i j l m n a => opb rfl rfl (by simp [go_sem, a.e 2 k2]),
  fun f s W i j l m n a => opz, trivial⟩ ?_
 intro f1 s1 W1 hB1 g1 hg1 z1
 have fB1 := hB1.f fB0
 obtain ⟨r1_0, br1_0⟩ := hB1.is 0
 have lr1_0 := hB1.lr 0 br1_0
 obtain ⟨r1_1, br1_1⟩ := hB1.is 1
 have lr1_1 := hB1.lr 1 br1_1
 obtain ⟨r1_2, br1_2⟩ := hB1.is 2
 have lr1_2 := hB1.lr 2 br1_2
 have ne1_0_1 := hB1.nb 0 1
 have ne1_0_2 := hB1.nb 0 2
 have ne1_1_2 := hB1.nb 1 2
 have k1_3 := kt hg1 3 r1_0
 have k1_4 := kt hg1 4 r1_1
 have k1_5 := kt hg1 5 r1_2
 refine rw_ 6 [(12, 0), (13, 1), (14, 2), (15, 3), (16, 4), (7, 5)] [[], [], [], [2], [0, 1, 3], [4]] (rel [is (.agg #[.int .i64 b.tab, .slice a1 (b.panels.length) c1, .int .i64 b.height, .slice a2 (b.top.length) c2, .slice a3 (b.bottom.length) c3, .int .i64 b.slot, .bool b.isOpen]), is (.agg #[.int .i64 l1, .int .i64 (h1'), .int .i64 l2, .int .i64 (h2'), .int .i64 l3, .int .i64 (h3'), .int .i64 l4, .int .i64 (h4'), .int .i64 l5, .int .i64 (h5'), .bool wo]), is (.pointer (some ⟨(s1 2), 0, none⟩)), is (.agg #[.int .i64 lo, .int .i64 hi]), iI 0, iI 0])
  ⟨fun f s W i j l m n a => opv rfl rfl (by simp [go_sem, a.e 3 k1_3, cb br1_0 i 0, cb br1_0 i 1, cb br1_0 i 2, cb br1_0 i 3, cb br1_0 i 4, cb br1_0 i 5, cb br1_0 i 6]) rfl,
  fun f s W i j l m n a => opv rfl rfl (by simp [go_sem, a.e 4 k1_4, cb br1_1 i 0, cb br1_1 i 1, cb br1_1 i 2, cb br1_1 i 3, cb br1_1 i 4, cb br1_1 i 5, cb br1_1 i 6, cb br1_1 i 7, cb br1_1 i 8, cb br1_1 i 9, cb br1_1 i 10]) rfl,
  fun f s W i j l m n a => opv rfl rfl (by simp [go_sem, a.e 5 k1_5]) rfl,
  fun f s W i j l m n a => opv rfl rfl (by simp [go_sem, a.e 14 (j 2 rfl), cb br1_2 i 0, cb br1_2 i 1]) rfl,
  fun f s W i j l m n a => by have p := bwt fB1 i; exact opd rfl rfl (by simp [go_sem, a.e 12 (j 0 rfl), a.e 13 (j 1 rfl), a.e 15 (j 3 rfl)]) (askedR_any a1 a2 a3 c1 c2 c3 b l1 h1' l2 h2' l3 h3' l4 h4' l5 h5' wo lo hi W (h1.below p (Nat.le_refl _)) (h2.below p (Nat.le_refl _)) (h3.below p (Nat.le_refl _))) ((fun e W' h => by have h1 := h.1; rw [askedR_eq, hE] at h1; exact ⟨_, h1, h.2, rfl⟩)),
  fun f s W i j l m n a => opm (a.v 16 (j 4 rfl)), trivial⟩ ?_
 intro f2 s2 W2 hB2 g2 hg2 z2
 have b2_2 := hB2.b br1_2
 have k2_5 := kt hg2 5 k1_5
 have k2_7 := kt hg2 7 (hB2.is 5)
 refine wp_seq_k fun K3 hK3 => ?_
 refine rw_ 8 [(17, 0), (18, 1), (19, 2), (20, 3), (21, 4), (22, 5), (23, 6), (24, 7)] [[], [0], [1], [2], [2, 3], [2, 4], [2, 5], [2, 6]] (rel [iI 0, iB true, iB true, is (.pointer (some ⟨(s1 2), 2, none⟩)), iI off, iB false, iB true, iB true])
  ⟨fun f s W i j l m n a => opm (a.v 7 k2_7),
  fun f s W i j l m n a => opv rfl rfl (by simp [go_sem, a.e 17 (j 0 rfl)]) rfl,
  fun f s W i j l m n a => opm (a.v 18 (j 1 rfl)),
  fun f s W i j l m n a => osure rfl rfl (a.says (d := 19) rfl rfl (j 2 rfl)) (gv (by simp [go_sem, a.e 5 k2_5]) rfl),
  fun f s W i j l m n a => osure rfl rfl (a.says (d := 19) rfl rfl (j 2 rfl)) (gv (by simp [go_sem, a.e 20 (j 3 rfl), cb b2_2 i 2]) rfl),
  fun f s W i j l m n a => osure rfl rfl (a.says (d := 19) rfl rfl (j 2 rfl)) (wp_called (by simp [go_sem, a.e 21 (j 4 rfl)]) (in_any off 0 5 W) ((fun e W' h => by have h1 := h.1; rw [hio] at h1; exact ⟨_, h1, h.2, rfl⟩))),
  fun f s W i j l m n a => osure rfl rfl (a.says (d := 19) rfl rfl (j 2 rfl)) (gv (by simp [go_sem, a.e 22 (j 5 rfl)]) rfl),
  fun f s W i j l m n a => opk (c := true) rfl rfl (fun h => absurd h (by decide)) (fun _ => by simp [go_sem, a.e 19 (j 2 rfl), a.e 23 (j 6 rfl)]), trivial⟩ ?_
 intro f3 s3 W3 hB3 g3 hg3 z3
 have k3_24 := kt hg3 24 (hB3.is 7)
 refine wp_cond_true ((fr_eval rfl).trans k3_24) ?_
 refine ry 1 [(7, 0)] [[]] (rel [iI 7])
  ⟨fun f s W i j l m n a => opz, trivial⟩ ?_
 intro f4 s4 W4 hB4 g4 hg4 z4
 have fB4 := hB4.f (hB3.f (hB2.f fB1))
 have b4_0 := hB4.b (hB3.b (hB2.b br1_0))
 refine hK3 _ _ ?_
 have k4_3 := kt hg4 3 (kt hg3 3 (kt hg2 3 k1_3))
 have k4_7 := kt hg4 7 (hB4.is 0)
 refine wp_seq_k fun K6 hK6 => ?_
 refine rx 16 [(25, 0), (26, 1), (27, 2), (28, 3), (29, 4), (30, 5), (31, 6), (32, 7), (33, 8), (34, 9), (35, 10), (36, 11), (37, 12), (38, 13), (39, 14), (40, 15)] [[], [0], [1], [2], [2, 3], [2, 4], [5], [5], [5], [5], [5], [5], [5], [5], [2, 5], [2, 14]] (rel [is (.agg #[.int .i64 b.tab, .slice a1 (b.panels.length) c1, .int .i64 b.height, .slice a2 (b.top.length) c2, .slice a3 (b.bottom.length) c3, .int .i64 b.slot, .bool b.isOpen]), iB false, iB false, iI 7, iB false, iB false, gd (false) true (fun _ _ _ => True), gd (false) true (fun _ _ _ => True), gd (false) true (fun _ _ _ => True), gd (false) true (fun _ _ _ => True), gd (false) true (fun _ _ _ => True), gd (false) true (fun _ _ _ => True), gd (false) true (fun _ _ _ => True), gd (false) true (fun _ _ _ => True), iB false, iB false])
  ⟨is_k, is_k, is_k, is_k, is_k, is_k, gdt_k, gdt_k, gdt_k, gdt_k, gdt_k, gdt_k, gdt_k, gdt_k, is_k, is_k, trivial⟩
  ⟨fun f s W i j l m n a => opv rfl rfl (by simp [go_sem, a.e 3 k4_3, cb b4_0 i 0, cb b4_0 i 1, cb b4_0 i 2, cb b4_0 i 3, cb b4_0 i 4, cb b4_0 i 5, cb b4_0 i 6]) rfl,
  fun f s W i j l m n a => by have p := bwt fB4 i; exact opd rfl rfl (by simp [go_sem, a.e 25 (j 0 rfl)]) (large_any a1 a2 a3 c1 c2 c3 b W (h1.below p (Nat.le_refl _)) (h2.below p (Nat.le_refl _)) (h3.below p (Nat.le_refl _))) ((fun e W' h => by have h1 := h.1; rw [hl] at h1; exact ⟨_, h1, h.2, rfl⟩)),
  fun f s W i j l m n a => opm (a.v 26 (j 1 rfl)),
  fun f s W i j l m n a => osure rfl rfl (a.says (d := 27) rfl rfl (j 2 rfl)) (gv (by simp [go_sem, a.e 7 k4_7]) rfl),
  fun f s W i j l m n a => osure rfl rfl (a.says (d := 27) rfl rfl (j 2 rfl)) (gv (by simp [go_sem, a.e 28 (j 3 rfl)]) rfl),
  fun f s W i j l m n a => osure rfl rfl (a.says (d := 27) rfl rfl (j 2 rfl)) (gv (by simp [go_sem, a.e 29 (j 4 rfl)]) rfl),
  fun f s W i j l m n a => gno (a.says (d := 30) rfl rfl (j 5 rfl)),
  fun f s W i j l m n a => gno (a.says (d := 30) rfl rfl (j 5 rfl)),
  fun f s W i j l m n a => gno (a.says (d := 30) rfl rfl (j 5 rfl)),
  fun f s W i j l m n a => gno (a.says (d := 30) rfl rfl (j 5 rfl)),
  fun f s W i j l m n a => gno (a.says (d := 30) rfl rfl (j 5 rfl)),
  fun f s W i j l m n a => gno (a.says (d := 30) rfl rfl (j 5 rfl)),
  fun f s W i j l m n a => gno (a.says (d := 30) rfl rfl (j 5 rfl)),
  fun f s W i j l m n a => gno (a.says (d := 30) rfl rfl (j 5 rfl)),
  fun f s W i j l m n a => osure rfl rfl (a.says (d := 27) rfl rfl (j 2 rfl)) (gk (c := false) (fun _ => by simp [go_sem, a.e 30 (j 5 rfl)]) (fun h => absurd h (by decide))),
  fun f s W i j l m n a => opk (c := false) rfl rfl (fun _ => by simp [go_sem, a.e 27 (j 2 rfl), a.e 39 (j 14 rfl)]) (fun h => absurd h (by decide)), trivial⟩ ?_
 intro f5 s5 W5 hB5 g5 hg5 z5
 have fB5 := hB5.f fB4
 have b5_0 := hB5.b b4_0
 have k5_3 := kt hg5 3 k4_3
 have k5_40 := kt hg5 40 (hB5.is 15)
 refine wp_cond_false ((fr_eval rfl).trans k5_40) ?_
 refine wp_skip ?_
 refine hK6 _ _ ?_
 refine wp_seq_k fun K9 hK9 => ?_
 refine rz 3 [(42, 0), (43, 1), (8, 2)] [[], [0], [], [0, 1, 2]] (rel [is (.agg #[.int .i64 b.tab, .slice a1 (b.panels.length) c1, .int .i64 b.height, .slice a2 (b.top.length) c2, .slice a3 (b.bottom.length) c3, .int .i64 b.slot, .bool b.isOpen]), fun v s W => NwBlk (s 1) (b) v W, bx 2 #[.int .i64 0, .slice none 0 0, .int .i64 0, .slice none 0 0, .slice none 0 0, .int .i64 0, .bool false] 24])
  ⟨is_k, ⟨fun v k W W' hb h => h.below hb, fun v s s' W e h => by have h' : NwBlk (s 1) (b) v W := h; show NwBlk (s' 1) (b) v W; rw [← e 1 (by simp)]; exact h'⟩, bx_k, trivial⟩
  ⟨fun f s W i j l m n a => opv rfl rfl (by simp [go_sem, a.e 3 k5_3, cb b5_0 i 0, cb b5_0 i 1, cb b5_0 i 2, cb b5_0 i 3, cb b5_0 i 4, cb b5_0 i 5, cb b5_0 i 6]) rfl,
  fun f s W i j l m n a => by have p := bwt fB5 i; exact opd rfl rfl (by simp [go_sem, a.e 42 (j 0 rfl)]) (own_any a1 a2 a3 c1 c2 c3 b W (h1.below p (Nat.le_refl _)) (h2.below p (Nat.le_refl _)) (h3.below p (Nat.le_refl _)) n1 n2 n3) (fun e W' h => by obtain ⟨v, e1, h1, h2⟩ := h; exact ⟨v, e1, h2, (show NwBlk (upd s 1 W.heap.size 1) (b) v W' from by rw [upd_at]; exact h1)⟩),
  fun f s W i j l m n a => opb rfl rfl (by simp [go_sem]), trivial⟩ ?_
 intro f6 s6 W6 hB6 g6 hg6 z6
 have fB6 := hB6.f fB5
 have b6_0 := hB6.b b5_0
 have b6_1 := hB6.b (hB5.b (hB4.b (hB3.b (hB2.b br1_1))))
 have b6_2 := hB6.b (hB5.b (hB4.b (hB3.b b2_2)))
 have la6_1_1 := hB6.from' 1 (by decide)
 obtain ⟨g46', c49', g47', c50', g48', c51', r6_1, ⟨q52', q54', q53'⟩, ⟨q55', q57', q56'⟩, ⟨q58', q60', q59'⟩⟩ := hB6.is 1
 obtain ⟨r6_2, br6_2⟩ := hB6.is 2
 have lr6_2 := hB6.lr 2 br6_2
 have la6_1 := hB6.from' 1 (by decide)
 have of6_1_2_0 := hB6.off 1 2 (by decide) (by decide) (by decide) q54' (fun W h => (NwBlk.lt h r6_1).1) (fun _ _ _ h => ltb h.2)
 have of6_1_2_1 := hB6.off 1 2 (by decide) (by decide) (by decide) q57' (fun W h => (NwBlk.lt h r6_1).2.1) (fun _ _ _ h => ltb h.2)
 have of6_1_2_2 := hB6.off 1 2 (by decide) (by decide) (by decide) q60' (fun W h => (NwBlk.lt h r6_1).2.2) (fun _ _ _ h => ltb h.2)
 have k6_4 := kt hg6 4 (kt hg5 4 (kt hg4 4 (kt hg3 4 (kt hg2 4 k1_4))))
 have k6_5 := kt hg6 5 (kt hg5 5 (kt hg4 5 (kt hg3 5 k2_5)))
 have k6_43 := kt hg6 43 r6_1
 have k6_8 := kt hg6 8 r6_2
 obtain ⟨W7, hW7⟩ : ∃ W', W' = W6.setRow (s6 2) #[.int .i64 b.tab, .slice (some ⟨g46', 0, none⟩) (b.panels.length) c49', .int .i64 b.height, .slice (some ⟨g47', 0, none⟩) (b.top.length) c50', .slice (some ⟨g48', 0, none⟩) (b.bottom.length) c51', .int .i64 b.slot, .bool b.isOpen] := ⟨_, rfl⟩
 refine tsk (o := _) rfl ⟨rfl, rfl⟩ (run_seg hW7 (fr_ev k6_8) (fr_ev k6_43) br6_2 rfl rfl rfl rfl) ?_
 obtain ⟨fB7, nb7, ot7, z7⟩ := sgf hW7 fB6 br6_2 (by omega)
 clear hW7
 have b7_0 := ot7 _ _ (by omega) b6_0
 have b7_1 := ot7 _ _ (by omega) b6_1
 have b7_2 := ot7 _ _ (by omega) b6_2
 have q61' := (q52'.other ot7 q53' (by omega) z7)
 have q62' := Nat.lt_of_lt_of_le q53' z7
 have q63' := (q55'.other ot7 q56' (by omega) z7)
 have q64' := Nat.lt_of_lt_of_le q56' z7
 have q65' := (q58'.other ot7 q59' (by omega) z7)
 have q66' := Nat.lt_of_lt_of_le q59' z7
 refine wpe ?_
 refine hK9 _ _ ?_
 refine rw_ 12 [(45, 0), (46, 1), (47, 2), (48, 3), (49, 4), (50, 5), (51, 6), (44, 7), (52, 8), (53, 9), (9, 10), (10, 11)] [[], [], [], [2], [], [4], [0, 1, 3, 5], [6], [7], [7], [8], [9]] (rel [is (.agg #[.int .i64 b.tab, .slice (some ⟨g46', 0, none⟩) (b.panels.length) c49', .int .i64 b.height, .slice (some ⟨g47', 0, none⟩) (b.top.length) c50', .slice (some ⟨g48', 0, none⟩) (b.bottom.length) c51', .int .i64 b.slot, .bool b.isOpen]), is (.agg #[.int .i64 l1, .int .i64 (h1'), .int .i64 l2, .int .i64 (h2'), .int .i64 l3, .int .i64 (h3'), .int .i64 l4, .int .i64 (h4'), .int .i64 l5, .int .i64 (h5'), .bool wo]), is (.pointer (some ⟨(s1 2), 0, none⟩)), is (.agg #[.int .i64 lo, .int .i64 hi]), is (.pointer (some ⟨(s1 2), 2, none⟩)), iI off, is (.tuple #[.int .i64 0, .int .i64 7]), is (.tuple #[.int .i64 0, .int .i64 7]), iI 0, iI 7, iI 0, iI 7])
  ⟨fun f s W i j l m n a => opv rfl rfl (by simp [go_sem, a.e 8 k6_8, cb nb7 i 0, cb nb7 i 1, cb nb7 i 2, cb nb7 i 3, cb nb7 i 4, cb nb7 i 5, cb nb7 i 6]) rfl,
  fun f s W i j l m n a => opv rfl rfl (by simp [go_sem, a.e 4 k6_4, cb b7_1 i 0, cb b7_1 i 1, cb b7_1 i 2, cb b7_1 i 3, cb b7_1 i 4, cb b7_1 i 5, cb b7_1 i 6, cb b7_1 i 7, cb b7_1 i 8, cb b7_1 i 9, cb b7_1 i 10]) rfl,
  fun f s W i j l m n a => opv rfl rfl (by simp [go_sem, a.e 5 k6_5]) rfl,
  fun f s W i j l m n a => opv rfl rfl (by simp [go_sem, a.e 47 (j 2 rfl), cb b7_2 i 0, cb b7_2 i 1]) rfl,
  fun f s W i j l m n a => opv rfl rfl (by simp [go_sem, a.e 5 k6_5]) rfl,
  fun f s W i j l m n a => opv rfl rfl (by simp [go_sem, a.e 49 (j 4 rfl), cb b7_2 i 2]) rfl,
  fun f s W i j l m n a => opd (args := #[.agg #[.int .i64 b.tab, .slice (some ⟨g46', 0, none⟩) (b.panels.length) c49', .int .i64 b.height, .slice (some ⟨g47', 0, none⟩) (b.top.length) c50', .slice (some ⟨g48', 0, none⟩) (b.bottom.length) c51', .int .i64 b.slot, .bool b.isOpen], .agg #[.int .i64 l1, .int .i64 (h1'), .int .i64 l2, .int .i64 (h2'), .int .i64 l3, .int .i64 (h3'), .int .i64 l4, .int .i64 (h4'), .int .i64 l5, .int .i64 (h5'), .bool wo], .agg #[.int .i64 lo, .int .i64 hi], .int .i64 off]) rfl rfl (by simp [go_sem, a.e 45 (j 0 rfl), a.e 46 (j 1 rfl), a.e 48 (j 3 rfl), a.e 50 (j 5 rfl)]) (may_blk (b := b) ⟨(l1, h1'), (l2, h2'), (l3, h3'), (l4, h4'), (l5, h5'), wo⟩ lo hi off W ⟨_, _, _, _, _, _, _, _, _, rfl, ((q61'.below i (Nat.le_refl _))), ((q63'.below i (Nat.le_refl _))), ((q65'.below i (Nat.le_refl _)))⟩) ((fun e W' h => by have h1 := h.1; rw [mayOf_e2 hE hio] at h1; exact ⟨_, h1, h.2, rfl⟩)),
  fun f s W i j l m n a => opm (a.v 51 (j 6 rfl)),
  fun f s W i j l m n a => opv rfl rfl (by simp [go_sem, a.e 44 (j 7 rfl)]) rfl,
  fun f s W i j l m n a => opv rfl rfl (by simp [go_sem, a.e 44 (j 7 rfl)]) rfl,
  fun f s W i j l m n a => opm (a.v 52 (j 8 rfl)),
  fun f s W i j l m n a => opm (a.v 53 (j 9 rfl)), trivial⟩ ?_
 intro f8 s8 W8 hB8 g8 hg8 z8
 have fB8 := hB8.f fB7
 have b8_0 := hB8.b b7_0
 have b8_3 := hB8.b nb7
 have q67' := (q61'.bw hB8)
 have q68' := (hB8.lt q62')
 have q69' := (q63'.bw hB8)
 have q70' := (hB8.lt q64')
 have q71' := (q65'.bw hB8)
 have q72' := (hB8.lt q66')
 have k8_3 := kt hg8 3 (kt hg6 3 k5_3)
 have k8_8 := kt hg8 8 k6_8
 refine wp_seq_k fun K11 hK11 => ?_
 refine rw_ 4 [(54, 0), (55, 1), (56, 2), (57, 3)] [[], [], [0, 1], [2]] (rel [is (.agg #[.int .i64 b.tab, .slice (some ⟨g46', 0, none⟩) (b.panels.length) c49', .int .i64 b.height, .slice (some ⟨g47', 0, none⟩) (b.top.length) c50', .slice (some ⟨g48', 0, none⟩) (b.bottom.length) c51', .int .i64 b.slot, .bool b.isOpen]), is (.agg #[.int .i64 b.tab, .slice a1 (b.panels.length) c1, .int .i64 b.height, .slice a2 (b.top.length) c2, .slice a3 (b.bottom.length) c3, .int .i64 b.slot, .bool b.isOpen]), iB true, iB false])
  ⟨fun f s W i j l m n a => opv rfl rfl (by simp [go_sem, a.e 8 k8_8, cb b8_3 i 0, cb b8_3 i 1, cb b8_3 i 2, cb b8_3 i 3, cb b8_3 i 4, cb b8_3 i 5, cb b8_3 i 6]) rfl,
  fun f s W i j l m n a => opv rfl rfl (by simp [go_sem, a.e 3 k8_3, cb b8_0 i 0, cb b8_0 i 1, cb b8_0 i 2, cb b8_0 i 3, cb b8_0 i 4, cb b8_0 i 5, cb b8_0 i 6]) rfl,
  fun f s W i j l m n a => by have p := bwt fB8 i; exact opd (args := #[.agg #[.int .i64 b.tab, .slice (some ⟨g46', 0, none⟩) (b.panels.length) c49', .int .i64 b.height, .slice (some ⟨g47', 0, none⟩) (b.top.length) c50', .slice (some ⟨g48', 0, none⟩) (b.bottom.length) c51', .int .i64 b.slot, .bool b.isOpen], .agg #[.int .i64 b.tab, .slice a1 (b.panels.length) c1, .int .i64 b.height, .slice a2 (b.top.length) c2, .slice a3 (b.bottom.length) c3, .int .i64 b.slot, .bool b.isOpen]]) rfl rfl (by simp [go_sem, a.e 54 (j 0 rfl), a.e 55 (j 1 rfl)]) (same_blk (b := b) (d := b) ⟨_, _, _, _, _, _, _, _, _, rfl, ((q67'.below i (Nat.le_refl _))), ((q69'.below i (Nat.le_refl _))), ((q71'.below i (Nat.le_refl _)))⟩ ⟨_, _, _, _, _, _, _, _, _, rfl, (h1.below p (Nat.le_refl _)), (h2.below p (Nat.le_refl _)), (h3.below p (Nat.le_refl _))⟩) ((fun e W' h => by have h1 := h.1; rw [sameB_self] at h1; exact ⟨_, h1, h.2, rfl⟩)),
  fun f s W i j l m n a => opv rfl rfl (by simp [go_sem, a.e 56 (j 2 rfl)]) rfl, trivial⟩ ?_
 intro f9 s9 W9 hB9 g9 hg9 z9
 have q73' := (q67'.bw hB9)
 have q74' := (hB9.lt q68')
 have q75' := (q69'.bw hB9)
 have q76' := (hB9.lt q70')
 have q77' := (q71'.bw hB9)
 have q78' := (hB9.lt q72')
 have k9_7 := kt hg9 7 (kt hg8 7 (kt hg6 7 (kt hg5 7 k4_7)))
 have k9_57 := kt hg9 57 (hB9.is 3)
 refine wp_cond_false ((fr_eval rfl).trans k9_57) ?_
 refine wp_skip ?_
 refine hK11 _ _ ?_
 refine wp_seq_k fun K14 hK14 => ?_
 refine rw_ 2 [(58, 0), (59, 1)] [[], [0]] (rel [iI 7, iB true])
  ⟨fun f s W i j l m n a => opm (a.v 7 k9_7),
  fun f s W i j l m n a => opv rfl rfl (by simp [go_sem, a.e 58 (j 0 rfl)]) rfl, trivial⟩ ?_
 intro f10 s10 W10 hB10 g10 hg10 z10
 have q79' := (q73'.bw hB10)
 have q80' := (hB10.lt q74')
 have q81' := (q75'.bw hB10)
 have q82' := (hB10.lt q76')
 have q83' := (q77'.bw hB10)
 have q84' := (hB10.lt q78')
 have k10_7 := kt hg10 7 k9_7
 have k10_9 := kt hg10 9 (kt hg9 9 (kt hg8 9 (hB8.is 10)))
 have k10_10 := kt hg10 10 (kt hg9 10 (kt hg8 10 (hB8.is 11)))
 have k10_59 := kt hg10 59 (hB10.is 1)
 refine wp_cond_true ((fr_eval rfl).trans k10_59) ?_
 refine rw_ 11 [(60, 0), (61, 1), (62, 2), (63, 3), (64, 4), (65, 5), (66, 6), (67, 7), (68, 8), (69, 9), (6, 10)] [[], [], [0, 1], [2], [3], [3, 4], [3, 5], [6], [7], [7, 8], [9]] (rel [iI 7, iI 7, iB true, iB true, iI 0, iB true, iB true, iB true, iB true, iB true, iB true])
  ⟨fun f s W i j l m n a => opm (a.v 10 k10_10),
  fun f s W i j l m n a => opm (a.v 7 k10_7),
  fun f s W i j l m n a => opv rfl rfl (by simp [go_sem, a.e 60 (j 0 rfl), a.e 61 (j 1 rfl)]) rfl,
  fun f s W i j l m n a => opm (a.v 62 (j 2 rfl)),
  fun f s W i j l m n a => osure rfl rfl (a.says (d := 63) rfl rfl (j 3 rfl)) (gv (by simp [go_sem, a.e 9 k10_9]) rfl),
  fun f s W i j l m n a => osure rfl rfl (a.says (d := 63) rfl rfl (j 3 rfl)) (gv (by simp [go_sem, a.e 64 (j 4 rfl)]) rfl),
  fun f s W i j l m n a => opk (c := true) rfl rfl (fun h => absurd h (by decide)) (fun _ => by simp [go_sem, a.e 63 (j 3 rfl), a.e 65 (j 5 rfl)]),
  fun f s W i j l m n a => opm (a.v 66 (j 6 rfl)),
  fun f s W i j l m n a => osure rfl rfl (a.says (d := 67) rfl rfl (j 7 rfl)) (gc (by simp [go_sem]) (known_any W)),
  fun f s W i j l m n a => opk (c := true) rfl rfl (fun h => absurd h (by decide)) (fun _ => by simp [go_sem, a.e 67 (j 7 rfl), a.e 68 (j 8 rfl)]),
  fun f s W i j l m n a => opm (a.v 69 (j 9 rfl)), trivial⟩ ?_
 intro f11 s11 W11 hB11 g11 hg11 z11
 have fB11 := hB11.f (hB10.f (hB9.f fB8))
 have q85' := (q79'.bw hB11)
 have q86' := (hB11.lt q80')
 have q87' := (q81'.bw hB11)
 have q88' := (hB11.lt q82')
 have q89' := (q83'.bw hB11)
 have q90' := (hB11.lt q84')
 have k11_6 := kt hg11 6 (hB11.is 10)
 refine wp_ret ?_
 refine then_ret ?_
 refine leave_one (N := 105) (.inr rfl) Tryz.results6 rfl k11_6 ?_
 exact ⟨rfl, fB11⟩
theorem mays_far (a1 a2 a3 : Option Addr) (c1 c2 c3 : Nat) (b : Bl) (l1 h1' l2 h2' l3 h3' l4 h4' l5 h5' : Int) (wo : Bool) (lo hi off : Int) (w : World) (h1 : Ii w a1 b.panels.length c1 b.panels) (h2 : Ii w a2 b.top.length c2 b.top) (h3 : Ii w a3 b.bottom.length c3 b.bottom) (hl : largeB b = false) (hE : wishedErr b ⟨(l1, h1'), (l2, h2'), (l3, h3'), (l4, h4'), (l5, h5'), wo⟩ [(lo, hi)] = 0) (hio : inB off 0 5 = true) (k : 1 ≤ lo ∧ lo ≤ hi ∧ hi ≤ 10000) (hf : 60 < hi - lo) :
  Calls Tryz.prog 6 #[.agg #[.int .i64 b.tab, .slice a1 (b.panels.length) c1, .int .i64 b.height, .slice a2 (b.top.length) c2, .slice a3 (b.bottom.length) c3, .int .i64 b.slot, .bool b.isOpen], .agg #[.int .i64 l1, .int .i64 (h1'), .int .i64 l2, .int .i64 (h2'), .int .i64 l3, .int .i64 (h3'), .int .i64 l4, .int .i64 (h4'), .int .i64 l5, .int .i64 (h5'), .bool wo], .agg #[.int .i64 lo, .int .i64 hi, .int .i64 off]] w (fun e w' => e = .returned (.bool true) ∧ Below w.heap.size w w') := by
 have hm1 := h1.len_le
 have hm2 := h2.len_le
 have hm3 := h3.len_le
 obtain ⟨m1, m2, m3⟩ := large_false hl
 have n1 : b.panels.length ≤ 1000 := by omega
 have n2 : b.top.length ≤ 1000 := by omega
 have n3 : b.bottom.length ≤ 1000 := by omega
 have hf' : decide (60 < hi - lo) = true := decide_eq_true hf
 refine calls_fr Tryz.func6 Tryz.ntmps6 rfl rfl fun g hg => ?_
 have k0 : g 0 = .agg #[.int .i64 b.tab, .slice a1 (b.panels.length) c1, .int .i64 b.height, .slice a2 (b.top.length) c2, .slice a3 (b.bottom.length) c3, .int .i64 b.slot, .bool b.isOpen] := hg 0
 have k1 : g 1 = .agg #[.int .i64 l1, .int .i64 (h1'), .int .i64 l2, .int .i64 (h2'), .int .i64 l3, .int .i64 (h3'), .int .i64 l4, .int .i64 (h4'), .int .i64 l5, .int .i64 (h5'), .bool wo] := hg 1
 have k2 : g 2 = .agg #[.int .i64 lo, .int .i64 hi, .int .i64 off] := hg 2
 clear hg
 have fB0 : Below w.heap.size w w := Below.refl _ _
 refine rw_ 4 [(3, 0), (4, 1), (5, 2), (6, 3)] [[], [], [], []] (rel [bx 0 #[.int .i64 b.tab, .slice a1 (b.panels.length) c1, .int .i64 b.height, .slice a2 (b.top.length) c2, .slice a3 (b.bottom.length) c3, .int .i64 b.slot, .bool b.isOpen] 24, bx 1 #[.int .i64 l1, .int .i64 (h1'), .int .i64 l2, .int .i64 (h2'), .int .i64 l3, .int .i64 (h3'), .int .i64 l4, .int .i64 (h4'), .int .i64 l5, .int .i64 (h5'), .bool wo] 43, bx 2 #[.int .i64 lo, .int .i64 hi, .int .i64 off] 63, iB false])
  ⟨fun f s W i j k l m a => opb rfl rfl (by simp [go_sem, a.e 0 k0]),
  fun f s W i j k l m a => opb rfl rfl (by simp [go_sem, a.e 1 k1]),
  fun f s W i j k l m a => opb rfl rfl (by simp [go_sem, a.e 2 k2]),
  fun f s W i j k l m a => opz, trivial⟩ ?_
 intro f1 s1 W1 hB1 g1 hg1 z1
 have fB1 := hB1.f fB0
 obtain ⟨r1_0, br1_0⟩ := hB1.is 0
 have lr1_0 := hB1.lr 0 br1_0
 obtain ⟨r1_1, br1_1⟩ := hB1.is 1
 have lr1_1 := hB1.lr 1 br1_1
 obtain ⟨r1_2, br1_2⟩ := hB1.is 2
 have lr1_2 := hB1.lr 2 br1_2
 have ne1_0_1 := hB1.nb 0 1
 have ne1_0_2 := hB1.nb 0 2
 have ne1_1_2 := hB1.nb 1 2
 have k1_3 := kt hg1 3 r1_0
 have k1_4 := kt hg1 4 r1_1
 have k1_5 := kt hg1 5 r1_2
 refine rw_ 6 [(12, 0), (13, 1), (14, 2), (15, 3), (16, 4), (7, 5)] [[], [], [], [2], [0, 1, 3], [4]] (rel [is (.agg #[.int .i64 b.tab, .slice a1 (b.panels.length) c1, .int .i64 b.height, .slice a2 (b.top.length) c2, .slice a3 (b.bottom.length) c3, .int .i64 b.slot, .bool b.isOpen]), is (.agg #[.int .i64 l1, .int .i64 (h1'), .int .i64 l2, .int .i64 (h2'), .int .i64 l3, .int .i64 (h3'), .int .i64 l4, .int .i64 (h4'), .int .i64 l5, .int .i64 (h5'), .bool wo]), is (.pointer (some ⟨(s1 2), 0, none⟩)), is (.agg #[.int .i64 lo, .int .i64 hi]), iI 0, iI 0])
  ⟨fun f s W i j k l m a => opv rfl rfl (by simp [go_sem, a.e 3 k1_3, cb br1_0 i 0, cb br1_0 i 1, cb br1_0 i 2, cb br1_0 i 3, cb br1_0 i 4, cb br1_0 i 5, cb br1_0 i 6]) rfl,
  fun f s W i j k l m a => opv rfl rfl (by simp [go_sem, a.e 4 k1_4, cb br1_1 i 0, cb br1_1 i 1, cb br1_1 i 2, cb br1_1 i 3, cb br1_1 i 4, cb br1_1 i 5, cb br1_1 i 6, cb br1_1 i 7, cb br1_1 i 8, cb br1_1 i 9, cb br1_1 i 10]) rfl,
  fun f s W i j k l m a => opv rfl rfl (by simp [go_sem, a.e 5 k1_5]) rfl,
  fun f s W i j k l m a => opv rfl rfl (by simp [go_sem, a.e 14 (j 2 rfl), cb br1_2 i 0, cb br1_2 i 1]) rfl,
  fun f s W i j k l m a => by have n := bwt fB1 i; exact opd rfl rfl (by simp [go_sem, a.e 12 (j 0 rfl), a.e 13 (j 1 rfl), a.e 15 (j 3 rfl)]) (askedR_any a1 a2 a3 c1 c2 c3 b l1 h1' l2 h2' l3 h3' l4 h4' l5 h5' wo lo hi W (h1.below n (Nat.le_refl _)) (h2.below n (Nat.le_refl _)) (h3.below n (Nat.le_refl _))) ((fun e W' h => by have h1 := h.1; rw [askedR_eq, hE] at h1; exact ⟨_, h1, h.2, rfl⟩)),
  fun f s W i j k l m a => opm (a.v 16 (j 4 rfl)), trivial⟩ ?_
 intro f2 s2 W2 hB2 g2 hg2 z2
 have b2_2 := hB2.b br1_2
 have k2_5 := kt hg2 5 k1_5
 have k2_7 := kt hg2 7 (hB2.is 5)
 refine wp_seq_k fun K3 hK3 => ?_
 refine rw_ 8 [(17, 0), (18, 1), (19, 2), (20, 3), (21, 4), (22, 5), (23, 6), (24, 7)] [[], [0], [1], [2], [2, 3], [2, 4], [2, 5], [2, 6]] (rel [iI 0, iB true, iB true, is (.pointer (some ⟨(s1 2), 2, none⟩)), iI off, iB true, iB false, iB false])
  ⟨fun f s W i j k l m a => opm (a.v 7 k2_7),
  fun f s W i j k l m a => opv rfl rfl (by simp [go_sem, a.e 17 (j 0 rfl)]) rfl,
  fun f s W i j k l m a => opm (a.v 18 (j 1 rfl)),
  fun f s W i j k l m a => osure rfl rfl (a.says (d := 19) rfl rfl (j 2 rfl)) (gv (by simp [go_sem, a.e 5 k2_5]) rfl),
  fun f s W i j k l m a => osure rfl rfl (a.says (d := 19) rfl rfl (j 2 rfl)) (gv (by simp [go_sem, a.e 20 (j 3 rfl), cb b2_2 i 2]) rfl),
  fun f s W i j k l m a => osure rfl rfl (a.says (d := 19) rfl rfl (j 2 rfl)) (wp_called (by simp [go_sem, a.e 21 (j 4 rfl)]) (in_any off 0 5 W) ((fun e W' h => by have h1 := h.1; rw [hio] at h1; exact ⟨_, h1, h.2, rfl⟩))),
  fun f s W i j k l m a => osure rfl rfl (a.says (d := 19) rfl rfl (j 2 rfl)) (gv (by simp [go_sem, a.e 22 (j 5 rfl)]) rfl),
  fun f s W i j k l m a => opk (c := true) rfl rfl (fun h => absurd h (by decide)) (fun _ => by simp [go_sem, a.e 19 (j 2 rfl), a.e 23 (j 6 rfl)]), trivial⟩ ?_
 intro f3 s3 W3 hB3 g3 hg3 z3
 have fB3 := hB3.f (hB2.f fB1)
 have b3_0 := hB3.b (hB2.b br1_0)
 have b3_2 := hB3.b b2_2
 have k3_3 := kt hg3 3 (kt hg2 3 k1_3)
 have k3_5 := kt hg3 5 k2_5
 have k3_7 := kt hg3 7 k2_7
 have k3_24 := kt hg3 24 (hB3.is 7)
 refine wp_cond_false ((fr_eval rfl).trans k3_24) ?_
 refine wp_skip ?_
 refine hK3 _ _ ?_
 refine wp_seq_k fun K6 hK6 => ?_
 refine rw_ 16 [(25, 0), (26, 1), (27, 2), (28, 3), (29, 4), (30, 5), (31, 6), (32, 7), (33, 8), (34, 9), (35, 10), (36, 11), (37, 12), (38, 13), (39, 14), (40, 15)] [[], [0], [1], [2], [2, 3], [2, 4], [5], [5, 6], [5, 7], [5], [5, 9], [5, 10], [5, 8, 11], [5, 12], [2, 5, 13], [2, 14]] (rel [is (.agg #[.int .i64 b.tab, .slice a1 (b.panels.length) c1, .int .i64 b.height, .slice a2 (b.top.length) c2, .slice a3 (b.bottom.length) c3, .int .i64 b.slot, .bool b.isOpen]), iB false, iB false, iI 0, iB true, iB true, is (.pointer (some ⟨(s1 2), 0, none⟩)), is (.pointer (some ⟨(s1 2), 1, none⟩)), iI hi, is (.pointer (some ⟨(s1 2), 0, none⟩)), is (.pointer (some ⟨(s1 2), 0, none⟩)), iI lo, iI (hi - lo), iB (decide (60 < (hi - lo))), iB (decide (60 < (hi - lo))), iB (decide (60 < (hi - lo)))])
  ⟨fun f s W i j k l m a => opv rfl rfl (by simp [go_sem, a.e 3 k3_3, cb b3_0 i 0, cb b3_0 i 1, cb b3_0 i 2, cb b3_0 i 3, cb b3_0 i 4, cb b3_0 i 5, cb b3_0 i 6]) rfl,
  fun f s W i j k l m a => by have n := bwt fB3 i; exact opd rfl rfl (by simp [go_sem, a.e 25 (j 0 rfl)]) (large_any a1 a2 a3 c1 c2 c3 b W (h1.below n (Nat.le_refl _)) (h2.below n (Nat.le_refl _)) (h3.below n (Nat.le_refl _))) ((fun e W' h => by have h1 := h.1; rw [hl] at h1; exact ⟨_, h1, h.2, rfl⟩)),
  fun f s W i j k l m a => opm (a.v 26 (j 1 rfl)),
  fun f s W i j k l m a => osure rfl rfl (a.says (d := 27) rfl rfl (j 2 rfl)) (gv (by simp [go_sem, a.e 7 k3_7]) rfl),
  fun f s W i j k l m a => osure rfl rfl (a.says (d := 27) rfl rfl (j 2 rfl)) (gv (by simp [go_sem, a.e 28 (j 3 rfl)]) rfl),
  fun f s W i j k l m a => osure rfl rfl (a.says (d := 27) rfl rfl (j 2 rfl)) (gv (by simp [go_sem, a.e 29 (j 4 rfl)]) rfl),
  fun f s W i j k l m a => osure rfl rfl (a.says (d := 30) rfl rfl (j 5 rfl)) (gv (by simp [go_sem, a.e 5 k3_5]) rfl),
  fun f s W i j k l m a => osure rfl rfl (a.says (d := 30) rfl rfl (j 5 rfl)) (gv (by simp [go_sem, a.e 31 (j 6 rfl)]) rfl),
  fun f s W i j k l m a => osure rfl rfl (a.says (d := 30) rfl rfl (j 5 rfl)) (gv (by simp [go_sem, a.e 32 (j 7 rfl), cb b3_2 i 1]) rfl),
  fun f s W i j k l m a => osure rfl rfl (a.says (d := 30) rfl rfl (j 5 rfl)) (gv (by simp [go_sem, a.e 5 k3_5]) rfl),
  fun f s W i j k l m a => osure rfl rfl (a.says (d := 30) rfl rfl (j 5 rfl)) (gv (by simp [go_sem, a.e 34 (j 9 rfl)]) rfl),
  fun f s W i j k l m a => osure rfl rfl (a.says (d := 30) rfl rfl (j 5 rfl)) (gv (by simp [go_sem, a.e 35 (j 10 rfl), cb b3_2 i 0]) rfl),
  fun f s W i j k l m a => osure rfl rfl (a.says (d := 30) rfl rfl (j 5 rfl)) (gv (by simp [go_sem, a.e 33 (j 8 rfl), a.e 36 (j 11 rfl), IntWalk.i64_in (hi - lo) (by omega)]) rfl),
  fun f s W i j k l m a => osure rfl rfl (a.says (d := 30) rfl rfl (j 5 rfl)) (gv (by simp [go_sem, a.e 37 (j 12 rfl)]) rfl),
  fun f s W i j k l m a => osure rfl rfl (a.says (d := 27) rfl rfl (j 2 rfl)) (gk (c := true) (fun h => absurd h (by decide)) (fun _ => by simp [go_sem, a.e 30 (j 5 rfl), a.e 38 (j 13 rfl)])),
  fun f s W i j k l m a => opk (c := false) rfl rfl (fun _ => by simp [go_sem, a.e 27 (j 2 rfl), a.e 39 (j 14 rfl)]) (fun h => absurd h (by decide)), trivial⟩ ?_
 intro f4 s4 W4 hB4 g4 hg4 z4
 have k4_40 := kt hg4 40 (hB4.is 15)
 have hc8 : (fr 105 g4).eval (.tmp 40) = .bool true := ((fr_eval rfl).trans k4_40).trans (by rw [hf'])
 refine wp_cond_true (hc8) ?_
 refine rw_ 2 [(41, 0), (6, 1)] [[], [0]] (rel [iB true, iB true])
  ⟨fun f s W i j k l m a => opc rfl rfl (by simp [go_sem]) (known_any W),
  fun f s W i j k l m a => opm (a.v 41 (j 0 rfl)), trivial⟩ ?_
 intro f5 s5 W5 hB5 g5 hg5 z5
 have fB5 := hB5.f (hB4.f fB3)
 have k5_6 := kt hg5 6 (hB5.is 1)
 refine wp_ret ?_
 refine then_ret ?_
 refine leave_one (N := 105) (.inr rfl) Tryz.results6 rfl k5_6 ?_
 exact ⟨rfl, fB5⟩
theorem no_step {f : Int → Bool} {lo c : Int} (h : ∀ d, lo ≤ d → d < c → f d = false) (hc : f c = false) : ∀ d, lo ≤ d → d < c + 1 → f d = false := fun d h1 h2 => by
  by_cases e : d = c
  · subst e; exact hc
  · exact h d h1 (by omega)
theorem mays_main (a1 a2 a3 : Option Addr) (c1 c2 c3 : Nat) (b : Bl) (l1 h1' l2 h2' l3 h3' l4 h4' l5 h5' : Int) (wo : Bool) (lo hi off : Int) (w : World) (h1 : Ii w a1 b.panels.length c1 b.panels) (h2 : Ii w a2 b.top.length c2 b.top) (h3 : Ii w a3 b.bottom.length c3 b.bottom) (hl : largeB b = false) (hE : wishedErr b ⟨(l1, h1'), (l2, h2'), (l3, h3'), (l4, h4'), (l5, h5'), wo⟩ [(lo, hi)] = 0) (hio : inB off 0 5 = true) (l : 1 ≤ lo ∧ lo ≤ hi ∧ hi ≤ 10000) (hf : ¬ 60 < hi - lo) (mc me : Int) (hM : mayOf b ⟨(l1, h1'), (l2, h2'), (l3, h3'), (l4, h4'), (l5, h5'), wo⟩ lo hi off = (mc, me)) :
  Calls Tryz.prog 6 #[.agg #[.int .i64 b.tab, .slice a1 (b.panels.length) c1, .int .i64 b.height, .slice a2 (b.top.length) c2, .slice a3 (b.bottom.length) c3, .int .i64 b.slot, .bool b.isOpen], .agg #[.int .i64 l1, .int .i64 (h1'), .int .i64 l2, .int .i64 (h2'), .int .i64 l3, .int .i64 (h3'), .int .i64 l4, .int .i64 (h4'), .int .i64 l5, .int .i64 (h5'), .bool wo], .agg #[.int .i64 lo, .int .i64 hi, .int .i64 off]] w (fun e w' => e = .returned (.bool true) ∧ Below w.heap.size w w') := by
 have hm1 := h1.len_le
 have hm2 := h2.len_le
 have hm3 := h3.len_le
 obtain ⟨m1, m2, m3⟩ := large_false hl
 have n1 : b.panels.length ≤ 1000 := by omega
 have n2 : b.top.length ≤ 1000 := by omega
 have n3 : b.bottom.length ≤ 1000 := by omega
 have hf' : decide (60 < hi - lo) = false := decide_eq_false hf
 obtain ⟨hck, hxw⟩ := wished_parts hE
 have hwi := wish_in hxw
 obtain ⟨ho1, ho2⟩ := inB_iff.1 hio
 refine calls_fr Tryz.func6 Tryz.ntmps6 rfl rfl fun g hg => ?_
 have k0 : g 0 = .agg #[.int .i64 b.tab, .slice a1 (b.panels.length) c1, .int .i64 b.height, .slice a2 (b.top.length) c2, .slice a3 (b.bottom.length) c3, .int .i64 b.slot, .bool b.isOpen] := hg 0
 have k1 : g 1 = .agg #[.int .i64 l1, .int .i64 (h1'), .int .i64 l2, .int .i64 (h2'), .int .i64 l3, .int .i64 (h3'), .int .i64 l4, .int .i64 (h4'), .int .i64 l5, .int .i64 (h5'), .bool wo] := hg 1
 have k2 : g 2 = .agg #[.int .i64 lo, .int .i64 hi, .int .i64 off] := hg 2
 clear hg
 have fB0 : Below w.heap.size w w := Below.refl _ _
 refine rw_ 4 [(3, 0), (4, 1), (5, 2), (6, 3)] [[], [], [], []] (rel [bx 0 #[.int .i64 b.tab, .slice a1 (b.panels.length) c1, .int .i64 b.height, .slice a2 (b.top.length) c2, .slice a3 (b.bottom.length) c3, .int .i64 b.slot, .bool b.isOpen] 24, bx 1 #[.int .i64 l1, .int .i64 (h1'), .int .i64 l2, .int .i64 (h2'), .int .i64 l3, .int .i64 (h3'), .int .i64 l4, .int .i64 (h4'), .int .i64 l5, .int .i64 (h5'), .bool wo] 43, bx 2 #[.int .i64 lo, .int .i64 hi, .int .i64 off] 63, iB false])
  ⟨fun f s W i j l m n a => opb rfl rfl (by simp [go_sem, a.e 0 k0]),
  fun f s W i j l m n a => opb rfl rfl (by simp [go_sem, a.e 1 k1]),
  fun f s W i j l m n a => opb rfl rfl (by simp [go_sem, a.e 2 k2]),
  fun f s W i j l m n a => opz, trivial⟩ ?_
 intro f1 s1 W1 hB1 g1 hg1 z1
 have fB1 := hB1.f fB0
 obtain ⟨r1_0, br1_0⟩ := hB1.is 0
 have lr1_0 := hB1.lr 0 br1_0
 obtain ⟨r1_1, br1_1⟩ := hB1.is 1
 have lr1_1 := hB1.lr 1 br1_1
 obtain ⟨r1_2, br1_2⟩ := hB1.is 2
 have lr1_2 := hB1.lr 2 br1_2
 have ne1_0_1 := hB1.nb 0 1
 have ne1_0_2 := hB1.nb 0 2
 have ne1_1_2 := hB1.nb 1 2
 have k1_3 := kt hg1 3 r1_0
 have k1_4 := kt hg1 4 r1_1
 have k1_5 := kt hg1 5 r1_2
 refine rw_ 6 [(12, 0), (13, 1), (14, 2), (15, 3), (16, 4), (7, 5)] [[], [], [], [2], [0, 1, 3], [4]] (rel [is (.agg #[.int .i64 b.tab, .slice a1 (b.panels.length) c1, .int .i64 b.height, .slice a2 (b.top.length) c2, .slice a3 (b.bottom.length) c3, .int .i64 b.slot, .bool b.isOpen]), is (.agg #[.int .i64 l1, .int .i64 (h1'), .int .i64 l2, .int .i64 (h2'), .int .i64 l3, .int .i64 (h3'), .int .i64 l4, .int .i64 (h4'), .int .i64 l5, .int .i64 (h5'), .bool wo]), is (.pointer (some ⟨(s1 2), 0, none⟩)), is (.agg #[.int .i64 lo, .int .i64 hi]), iI 0, iI 0])
  ⟨fun f s W i j l m n a => opv rfl rfl (by simp [go_sem, a.e 3 k1_3, cb br1_0 i 0, cb br1_0 i 1, cb br1_0 i 2, cb br1_0 i 3, cb br1_0 i 4, cb br1_0 i 5, cb br1_0 i 6]) rfl,
  fun f s W i j l m n a => opv rfl rfl (by simp [go_sem, a.e 4 k1_4, cb br1_1 i 0, cb br1_1 i 1, cb br1_1 i 2, cb br1_1 i 3, cb br1_1 i 4, cb br1_1 i 5, cb br1_1 i 6, cb br1_1 i 7, cb br1_1 i 8, cb br1_1 i 9, cb br1_1 i 10]) rfl,
  fun f s W i j l m n a => opv rfl rfl (by simp [go_sem, a.e 5 k1_5]) rfl,
  fun f s W i j l m n a => opv rfl rfl (by simp [go_sem, a.e 14 (j 2 rfl), cb br1_2 i 0, cb br1_2 i 1]) rfl,
  fun f s W i j l m n a => by have p := bwt fB1 i; exact opd rfl rfl (by simp [go_sem, a.e 12 (j 0 rfl), a.e 13 (j 1 rfl), a.e 15 (j 3 rfl)]) (askedR_any a1 a2 a3 c1 c2 c3 b l1 h1' l2 h2' l3 h3' l4 h4' l5 h5' wo lo hi W (h1.below p (Nat.le_refl _)) (h2.below p (Nat.le_refl _)) (h3.below p (Nat.le_refl _))) ((fun e W' h => by have h1 := h.1; rw [askedR_eq, hE] at h1; exact ⟨_, h1, h.2, rfl⟩)),
  fun f s W i j l m n a => opm (a.v 16 (j 4 rfl)), trivial⟩ ?_
 intro f2 s2 W2 hB2 g2 hg2 z2
 have b2_2 := hB2.b br1_2
 have k2_5 := kt hg2 5 k1_5
 have k2_7 := kt hg2 7 (hB2.is 5)
 refine wp_seq_k fun K3 hK3 => ?_
 refine rw_ 8 [(17, 0), (18, 1), (19, 2), (20, 3), (21, 4), (22, 5), (23, 6), (24, 7)] [[], [0], [1], [2], [2, 3], [2, 4], [2, 5], [2, 6]] (rel [iI 0, iB true, iB true, is (.pointer (some ⟨(s1 2), 2, none⟩)), iI off, iB true, iB false, iB false])
  ⟨fun f s W i j l m n a => opm (a.v 7 k2_7),
  fun f s W i j l m n a => opv rfl rfl (by simp [go_sem, a.e 17 (j 0 rfl)]) rfl,
  fun f s W i j l m n a => opm (a.v 18 (j 1 rfl)),
  fun f s W i j l m n a => osure rfl rfl (a.says (d := 19) rfl rfl (j 2 rfl)) (gv (by simp [go_sem, a.e 5 k2_5]) rfl),
  fun f s W i j l m n a => osure rfl rfl (a.says (d := 19) rfl rfl (j 2 rfl)) (gv (by simp [go_sem, a.e 20 (j 3 rfl), cb b2_2 i 2]) rfl),
  fun f s W i j l m n a => osure rfl rfl (a.says (d := 19) rfl rfl (j 2 rfl)) (wp_called (by simp [go_sem, a.e 21 (j 4 rfl)]) (in_any off 0 5 W) ((fun e W' h => by have h1 := h.1; rw [hio] at h1; exact ⟨_, h1, h.2, rfl⟩))),
  fun f s W i j l m n a => osure rfl rfl (a.says (d := 19) rfl rfl (j 2 rfl)) (gv (by simp [go_sem, a.e 22 (j 5 rfl)]) rfl),
  fun f s W i j l m n a => opk (c := true) rfl rfl (fun h => absurd h (by decide)) (fun _ => by simp [go_sem, a.e 19 (j 2 rfl), a.e 23 (j 6 rfl)]), trivial⟩ ?_
 intro f3 s3 W3 hB3 g3 hg3 z3
 have fB3 := hB3.f (hB2.f fB1)
 have b3_0 := hB3.b (hB2.b br1_0)
 have b3_2 := hB3.b b2_2
 have k3_3 := kt hg3 3 (kt hg2 3 k1_3)
 have k3_5 := kt hg3 5 k2_5
 have k3_7 := kt hg3 7 k2_7
 have k3_24 := kt hg3 24 (hB3.is 7)
 refine wp_cond_false ((fr_eval rfl).trans k3_24) ?_
 refine wp_skip ?_
 refine hK3 _ _ ?_
 refine wp_seq_k fun K6 hK6 => ?_
 refine rw_ 16 [(25, 0), (26, 1), (27, 2), (28, 3), (29, 4), (30, 5), (31, 6), (32, 7), (33, 8), (34, 9), (35, 10), (36, 11), (37, 12), (38, 13), (39, 14), (40, 15)] [[], [0], [1], [2], [2, 3], [2, 4], [5], [5, 6], [5, 7], [5], [5, 9], [5, 10], [5, 8, 11], [5, 12], [2, 5, 13], [2, 14]] (rel [is (.agg #[.int .i64 b.tab, .slice a1 (b.panels.length) c1, .int .i64 b.height, .slice a2 (b.top.length) c2, .slice a3 (b.bottom.length) c3, .int .i64 b.slot, .bool b.isOpen]), iB false, iB false, iI 0, iB true, iB true, is (.pointer (some ⟨(s1 2), 0, none⟩)), is (.pointer (some ⟨(s1 2), 1, none⟩)), iI hi, is (.pointer (some ⟨(s1 2), 0, none⟩)), is (.pointer (some ⟨(s1 2), 0, none⟩)), iI lo, iI (hi - lo), iB (decide (60 < (hi - lo))), iB (decide (60 < (hi - lo))), iB (decide (60 < (hi - lo)))])
  ⟨fun f s W i j l m n a => opv rfl rfl (by simp [go_sem, a.e 3 k3_3, cb b3_0 i 0, cb b3_0 i 1, cb b3_0 i 2, cb b3_0 i 3, cb b3_0 i 4, cb b3_0 i 5, cb b3_0 i 6]) rfl,
  fun f s W i j l m n a => by have p := bwt fB3 i; exact opd rfl rfl (by simp [go_sem, a.e 25 (j 0 rfl)]) (large_any a1 a2 a3 c1 c2 c3 b W (h1.below p (Nat.le_refl _)) (h2.below p (Nat.le_refl _)) (h3.below p (Nat.le_refl _))) ((fun e W' h => by have h1 := h.1; rw [hl] at h1; exact ⟨_, h1, h.2, rfl⟩)),
  fun f s W i j l m n a => opm (a.v 26 (j 1 rfl)),
  fun f s W i j l m n a => osure rfl rfl (a.says (d := 27) rfl rfl (j 2 rfl)) (gv (by simp [go_sem, a.e 7 k3_7]) rfl),
  fun f s W i j l m n a => osure rfl rfl (a.says (d := 27) rfl rfl (j 2 rfl)) (gv (by simp [go_sem, a.e 28 (j 3 rfl)]) rfl),
  fun f s W i j l m n a => osure rfl rfl (a.says (d := 27) rfl rfl (j 2 rfl)) (gv (by simp [go_sem, a.e 29 (j 4 rfl)]) rfl),
  fun f s W i j l m n a => osure rfl rfl (a.says (d := 30) rfl rfl (j 5 rfl)) (gv (by simp [go_sem, a.e 5 k3_5]) rfl),
  fun f s W i j l m n a => osure rfl rfl (a.says (d := 30) rfl rfl (j 5 rfl)) (gv (by simp [go_sem, a.e 31 (j 6 rfl)]) rfl),
  fun f s W i j l m n a => osure rfl rfl (a.says (d := 30) rfl rfl (j 5 rfl)) (gv (by simp [go_sem, a.e 32 (j 7 rfl), cb b3_2 i 1]) rfl),
  fun f s W i j l m n a => osure rfl rfl (a.says (d := 30) rfl rfl (j 5 rfl)) (gv (by simp [go_sem, a.e 5 k3_5]) rfl),
  fun f s W i j l m n a => osure rfl rfl (a.says (d := 30) rfl rfl (j 5 rfl)) (gv (by simp [go_sem, a.e 34 (j 9 rfl)]) rfl),
  fun f s W i j l m n a => osure rfl rfl (a.says (d := 30) rfl rfl (j 5 rfl)) (gv (by simp [go_sem, a.e 35 (j 10 rfl), cb b3_2 i 0]) rfl),
  fun f s W i j l m n a => osure rfl rfl (a.says (d := 30) rfl rfl (j 5 rfl)) (gv (by simp [go_sem, a.e 33 (j 8 rfl), a.e 36 (j 11 rfl), IntWalk.i64_in (hi - lo) (by omega)]) rfl),
  fun f s W i j l m n a => osure rfl rfl (a.says (d := 30) rfl rfl (j 5 rfl)) (gv (by simp [go_sem, a.e 37 (j 12 rfl)]) rfl),
  fun f s W i j l m n a => osure rfl rfl (a.says (d := 27) rfl rfl (j 2 rfl)) (gk (c := true) (fun h => absurd h (by decide)) (fun _ => by simp [go_sem, a.e 30 (j 5 rfl), a.e 38 (j 13 rfl)])),
  fun f s W i j l m n a => opk (c := false) rfl rfl (fun _ => by simp [go_sem, a.e 27 (j 2 rfl), a.e 39 (j 14 rfl)]) (fun h => absurd h (by decide)), trivial⟩ ?_
 intro f4 s4 W4 hB4 g4 hg4 z4
 have fB4 := hB4.f fB3
 have b4_0 := hB4.b b3_0
 have k4_3 := kt hg4 3 k3_3
 have k4_40 := kt hg4 40 (hB4.is 15)
 have hc8 : (fr 105 g4).eval (.tmp 40) = .bool false := ((fr_eval rfl).trans k4_40).trans (by rw [hf'])
 refine wp_cond_false (hc8) ?_
 refine wp_skip ?_
 refine hK6 _ _ ?_
 refine wp_seq_k fun K9 hK9 => ?_
 refine rz 3 [(42, 0), (43, 1), (8, 2)] [[], [0], [], [0, 1, 2]] (rel [is (.agg #[.int .i64 b.tab, .slice a1 (b.panels.length) c1, .int .i64 b.height, .slice a2 (b.top.length) c2, .slice a3 (b.bottom.length) c3, .int .i64 b.slot, .bool b.isOpen]), fun v s W => NwBlk (s 1) (b) v W, bx 2 #[.int .i64 0, .slice none 0 0, .int .i64 0, .slice none 0 0, .slice none 0 0, .int .i64 0, .bool false] 24])
  ⟨is_k, ⟨fun v k W W' hb h => h.below hb, fun v s s' W e h => by have h' : NwBlk (s 1) (b) v W := h; show NwBlk (s' 1) (b) v W; rw [← e 1 (by simp)]; exact h'⟩, bx_k, trivial⟩
  ⟨fun f s W i j l m n a => opv rfl rfl (by simp [go_sem, a.e 3 k4_3, cb b4_0 i 0, cb b4_0 i 1, cb b4_0 i 2, cb b4_0 i 3, cb b4_0 i 4, cb b4_0 i 5, cb b4_0 i 6]) rfl,
  fun f s W i j l m n a => by have p := bwt fB4 i; exact opd rfl rfl (by simp [go_sem, a.e 42 (j 0 rfl)]) (own_any a1 a2 a3 c1 c2 c3 b W (h1.below p (Nat.le_refl _)) (h2.below p (Nat.le_refl _)) (h3.below p (Nat.le_refl _)) n1 n2 n3) (fun e W' h => by obtain ⟨v, e1, h1, h2⟩ := h; exact ⟨v, e1, h2, (show NwBlk (upd s 1 W.heap.size 1) (b) v W' from by rw [upd_at]; exact h1)⟩),
  fun f s W i j l m n a => opb rfl rfl (by simp [go_sem]), trivial⟩ ?_
 intro f5 s5 W5 hB5 g5 hg5 z5
 have fB5 := hB5.f fB4
 have b5_0 := hB5.b b4_0
 have b5_1 := hB5.b (hB4.b (hB3.b (hB2.b br1_1)))
 have b5_2 := hB5.b (hB4.b b3_2)
 have la5_1_1 := hB5.from' 1 (by decide)
 obtain ⟨g91', c94', g92', c95', g93', c96', r5_1, ⟨q97', q99', q98'⟩, ⟨q100', q102', q101'⟩, ⟨q103', q105', q104'⟩⟩ := hB5.is 1
 obtain ⟨r5_2, br5_2⟩ := hB5.is 2
 have lr5_2 := hB5.lr 2 br5_2
 have la5_1 := hB5.from' 1 (by decide)
 have of5_1_2_0 := hB5.off 1 2 (by decide) (by decide) (by decide) q99' (fun W h => (NwBlk.lt h r5_1).1) (fun _ _ _ h => ltb h.2)
 have of5_1_2_1 := hB5.off 1 2 (by decide) (by decide) (by decide) q102' (fun W h => (NwBlk.lt h r5_1).2.1) (fun _ _ _ h => ltb h.2)
 have of5_1_2_2 := hB5.off 1 2 (by decide) (by decide) (by decide) q105' (fun W h => (NwBlk.lt h r5_1).2.2) (fun _ _ _ h => ltb h.2)
 have k5_4 := kt hg5 4 (kt hg4 4 (kt hg3 4 (kt hg2 4 k1_4)))
 have k5_5 := kt hg5 5 (kt hg4 5 k3_5)
 have k5_43 := kt hg5 43 r5_1
 have k5_8 := kt hg5 8 r5_2
 obtain ⟨W6, hW6⟩ : ∃ W', W' = W5.setRow (s5 2) #[.int .i64 b.tab, .slice (some ⟨g91', 0, none⟩) (b.panels.length) c94', .int .i64 b.height, .slice (some ⟨g92', 0, none⟩) (b.top.length) c95', .slice (some ⟨g93', 0, none⟩) (b.bottom.length) c96', .int .i64 b.slot, .bool b.isOpen] := ⟨_, rfl⟩
 refine tsk (o := _) rfl ⟨rfl, rfl⟩ (run_seg hW6 (fr_ev k5_8) (fr_ev k5_43) br5_2 rfl rfl rfl rfl) ?_
 obtain ⟨fB6, nb6, ot6, z6⟩ := sgf hW6 fB5 br5_2 (by omega)
 clear hW6
 have b6_0 := ot6 _ _ (by omega) b5_0
 have b6_1 := ot6 _ _ (by omega) b5_1
 have b6_2 := ot6 _ _ (by omega) b5_2
 have q106' := (q97'.other ot6 q98' (by omega) z6)
 have q107' := Nat.lt_of_lt_of_le q98' z6
 have q108' := (q100'.other ot6 q101' (by omega) z6)
 have q109' := Nat.lt_of_lt_of_le q101' z6
 have q110' := (q103'.other ot6 q104' (by omega) z6)
 have q111' := Nat.lt_of_lt_of_le q104' z6
 refine wpe ?_
 refine hK9 _ _ ?_
 refine rw_ 12 [(45, 0), (46, 1), (47, 2), (48, 3), (49, 4), (50, 5), (51, 6), (44, 7), (52, 8), (53, 9), (9, 10), (10, 11)] [[], [], [], [2], [], [4], [0, 1, 3, 5], [6], [7], [7], [8], [9]] (rel [is (.agg #[.int .i64 b.tab, .slice (some ⟨g91', 0, none⟩) (b.panels.length) c94', .int .i64 b.height, .slice (some ⟨g92', 0, none⟩) (b.top.length) c95', .slice (some ⟨g93', 0, none⟩) (b.bottom.length) c96', .int .i64 b.slot, .bool b.isOpen]), is (.agg #[.int .i64 l1, .int .i64 (h1'), .int .i64 l2, .int .i64 (h2'), .int .i64 l3, .int .i64 (h3'), .int .i64 l4, .int .i64 (h4'), .int .i64 l5, .int .i64 (h5'), .bool wo]), is (.pointer (some ⟨(s1 2), 0, none⟩)), is (.agg #[.int .i64 lo, .int .i64 hi]), is (.pointer (some ⟨(s1 2), 2, none⟩)), iI off, is (.tuple #[.int .i64 mc, .int .i64 me]), is (.tuple #[.int .i64 mc, .int .i64 me]), iI mc, iI me, iI mc, iI me])
  ⟨fun f s W i j l m n a => opv rfl rfl (by simp [go_sem, a.e 8 k5_8, cb nb6 i 0, cb nb6 i 1, cb nb6 i 2, cb nb6 i 3, cb nb6 i 4, cb nb6 i 5, cb nb6 i 6]) rfl,
  fun f s W i j l m n a => opv rfl rfl (by simp [go_sem, a.e 4 k5_4, cb b6_1 i 0, cb b6_1 i 1, cb b6_1 i 2, cb b6_1 i 3, cb b6_1 i 4, cb b6_1 i 5, cb b6_1 i 6, cb b6_1 i 7, cb b6_1 i 8, cb b6_1 i 9, cb b6_1 i 10]) rfl,
  fun f s W i j l m n a => opv rfl rfl (by simp [go_sem, a.e 5 k5_5]) rfl,
  fun f s W i j l m n a => opv rfl rfl (by simp [go_sem, a.e 47 (j 2 rfl), cb b6_2 i 0, cb b6_2 i 1]) rfl,
  fun f s W i j l m n a => opv rfl rfl (by simp [go_sem, a.e 5 k5_5]) rfl,
  fun f s W i j l m n a => opv rfl rfl (by simp [go_sem, a.e 49 (j 4 rfl), cb b6_2 i 2]) rfl,
  fun f s W i j l m n a => opd (args := #[.agg #[.int .i64 b.tab, .slice (some ⟨g91', 0, none⟩) (b.panels.length) c94', .int .i64 b.height, .slice (some ⟨g92', 0, none⟩) (b.top.length) c95', .slice (some ⟨g93', 0, none⟩) (b.bottom.length) c96', .int .i64 b.slot, .bool b.isOpen], .agg #[.int .i64 l1, .int .i64 (h1'), .int .i64 l2, .int .i64 (h2'), .int .i64 l3, .int .i64 (h3'), .int .i64 l4, .int .i64 (h4'), .int .i64 l5, .int .i64 (h5'), .bool wo], .agg #[.int .i64 lo, .int .i64 hi], .int .i64 off]) rfl rfl (by simp [go_sem, a.e 45 (j 0 rfl), a.e 46 (j 1 rfl), a.e 48 (j 3 rfl), a.e 50 (j 5 rfl)]) (may_blk (b := b) ⟨(l1, h1'), (l2, h2'), (l3, h3'), (l4, h4'), (l5, h5'), wo⟩ lo hi off W ⟨_, _, _, _, _, _, _, _, _, rfl, ((q106'.below i (Nat.le_refl _))), ((q108'.below i (Nat.le_refl _))), ((q110'.below i (Nat.le_refl _)))⟩) ((fun e W' h => by have h1 := h.1; rw [hM] at h1; exact ⟨_, h1, h.2, rfl⟩)),
  fun f s W i j l m n a => opm (a.v 51 (j 6 rfl)),
  fun f s W i j l m n a => opv rfl rfl (by simp [go_sem, a.e 44 (j 7 rfl)]) rfl,
  fun f s W i j l m n a => opv rfl rfl (by simp [go_sem, a.e 44 (j 7 rfl)]) rfl,
  fun f s W i j l m n a => opm (a.v 52 (j 8 rfl)),
  fun f s W i j l m n a => opm (a.v 53 (j 9 rfl)), trivial⟩ ?_
 intro f7 s7 W7 hB7 g7 hg7 z7
 have fB7 := hB7.f fB6
 have b7_0 := hB7.b b6_0
 have b7_3 := hB7.b nb6
 have q112' := (q106'.bw hB7)
 have q113' := (hB7.lt q107')
 have q114' := (q108'.bw hB7)
 have q115' := (hB7.lt q109')
 have q116' := (q110'.bw hB7)
 have q117' := (hB7.lt q111')
 have k7_3 := kt hg7 3 (kt hg5 3 k4_3)
 have k7_8 := kt hg7 8 k5_8
 refine wp_seq_k fun K11 hK11 => ?_
 refine rw_ 4 [(54, 0), (55, 1), (56, 2), (57, 3)] [[], [], [0, 1], [2]] (rel [is (.agg #[.int .i64 b.tab, .slice (some ⟨g91', 0, none⟩) (b.panels.length) c94', .int .i64 b.height, .slice (some ⟨g92', 0, none⟩) (b.top.length) c95', .slice (some ⟨g93', 0, none⟩) (b.bottom.length) c96', .int .i64 b.slot, .bool b.isOpen]), is (.agg #[.int .i64 b.tab, .slice a1 (b.panels.length) c1, .int .i64 b.height, .slice a2 (b.top.length) c2, .slice a3 (b.bottom.length) c3, .int .i64 b.slot, .bool b.isOpen]), iB true, iB false])
  ⟨fun f s W i j l m n a => opv rfl rfl (by simp [go_sem, a.e 8 k7_8, cb b7_3 i 0, cb b7_3 i 1, cb b7_3 i 2, cb b7_3 i 3, cb b7_3 i 4, cb b7_3 i 5, cb b7_3 i 6]) rfl,
  fun f s W i j l m n a => opv rfl rfl (by simp [go_sem, a.e 3 k7_3, cb b7_0 i 0, cb b7_0 i 1, cb b7_0 i 2, cb b7_0 i 3, cb b7_0 i 4, cb b7_0 i 5, cb b7_0 i 6]) rfl,
  fun f s W i j l m n a => by have p := bwt fB7 i; exact opd (args := #[.agg #[.int .i64 b.tab, .slice (some ⟨g91', 0, none⟩) (b.panels.length) c94', .int .i64 b.height, .slice (some ⟨g92', 0, none⟩) (b.top.length) c95', .slice (some ⟨g93', 0, none⟩) (b.bottom.length) c96', .int .i64 b.slot, .bool b.isOpen], .agg #[.int .i64 b.tab, .slice a1 (b.panels.length) c1, .int .i64 b.height, .slice a2 (b.top.length) c2, .slice a3 (b.bottom.length) c3, .int .i64 b.slot, .bool b.isOpen]]) rfl rfl (by simp [go_sem, a.e 54 (j 0 rfl), a.e 55 (j 1 rfl)]) (same_blk (b := b) (d := b) ⟨_, _, _, _, _, _, _, _, _, rfl, ((q112'.below i (Nat.le_refl _))), ((q114'.below i (Nat.le_refl _))), ((q116'.below i (Nat.le_refl _)))⟩ ⟨_, _, _, _, _, _, _, _, _, rfl, (h1.below p (Nat.le_refl _)), (h2.below p (Nat.le_refl _)), (h3.below p (Nat.le_refl _))⟩) ((fun e W' h => by have h1 := h.1; rw [sameB_self] at h1; exact ⟨_, h1, h.2, rfl⟩)),
  fun f s W i j l m n a => opv rfl rfl (by simp [go_sem, a.e 56 (j 2 rfl)]) rfl, trivial⟩ ?_
 intro f8 s8 W8 hB8 g8 hg8 z8
 have q118' := (q112'.bw hB8)
 have q119' := (hB8.lt q113')
 have q120' := (q114'.bw hB8)
 have q121' := (hB8.lt q115')
 have q122' := (q116'.bw hB8)
 have q123' := (hB8.lt q117')
 have k8_7 := kt hg8 7 (kt hg7 7 (kt hg5 7 (kt hg4 7 k3_7)))
 have k8_57 := kt hg8 57 (hB8.is 3)
 refine wp_cond_false ((fr_eval rfl).trans k8_57) ?_
 refine wp_skip ?_
 refine hK11 _ _ ?_
 refine wp_seq_k fun K14 hK14 => ?_
 refine rw_ 2 [(58, 0), (59, 1)] [[], [0]] (rel [iI 0, iB false])
  ⟨fun f s W i j l m n a => opm (a.v 7 k8_7),
  fun f s W i j l m n a => opv rfl rfl (by simp [go_sem, a.e 58 (j 0 rfl)]) rfl, trivial⟩ ?_
 intro f9 s9 W9 hB9 g9 hg9 z9
 have b9_2 := hB9.b (hB8.b (hB7.b b6_2))
 have q124' := (q118'.bw hB9)
 have q125' := (hB9.lt q119')
 have q126' := (q120'.bw hB9)
 have q127' := (hB9.lt q121')
 have q128' := (q122'.bw hB9)
 have q129' := (hB9.lt q123')
 have k9_5 := kt hg9 5 (kt hg8 5 (kt hg7 5 k5_5))
 have k9_59 := kt hg9 59 (hB9.is 1)
 refine wp_cond_false ((fr_eval rfl).trans k9_59) ?_
 refine wp_skip ?_
 refine hK14 _ _ ?_
 refine wp_seq_k fun K17 hK17 => ?_
 refine rw_ 4 [(70, 0), (71, 1), (72, 2), (11, 3)] [[], [0], [1], [2]] (rel [is (.pointer (some ⟨(s1 2), 0, none⟩)), is (.pointer (some ⟨(s1 2), 0, none⟩)), iI lo, iI lo])
  ⟨fun f s W i j l m n a => opv rfl rfl (by simp [go_sem, a.e 5 k9_5]) rfl,
  fun f s W i j l m n a => opv rfl rfl (by simp [go_sem, a.e 70 (j 0 rfl)]) rfl,
  fun f s W i j l m n a => opv rfl rfl (by simp [go_sem, a.e 71 (j 1 rfl), cb b9_2 i 0]) rfl,
  fun f s W i j l m n a => opm (a.v 72 (j 2 rfl)), trivial⟩ ?_
 intro f10 s10 W10 hB10 g10 hg10 z10
 have fB10 := hB10.f (hB9.f (hB8.f fB7))
 have b10_0 := hB10.b (hB9.b (hB8.b b7_0))
 have b10_1 := hB10.b (hB9.b (hB8.b (hB7.b b6_1)))
 have b10_2 := hB10.b b9_2
 have b10_3 := hB10.b (hB9.b (hB8.b b7_3))
 have q130' := (q124'.bw hB10)
 have q131' := (hB10.lt q125')
 have q132' := (q126'.bw hB10)
 have q133' := (hB10.lt q127')
 have q134' := (q128'.bw hB10)
 have q135' := (hB10.lt q129')
 have k10_3 := kt hg10 3 (kt hg9 3 (kt hg8 3 k7_3))
 have k10_4 := kt hg10 4 (kt hg9 4 (kt hg8 4 (kt hg7 4 k5_4)))
 have k10_5 := kt hg10 5 k9_5
 have k10_6 := kt hg10 6 (kt hg9 6 (kt hg8 6 (kt hg7 6 (kt hg5 6 (kt hg4 6 (kt hg3 6 (kt hg2 6 (kt hg1 6 (hB1.is 3)))))))))
 have k10_9 := kt hg10 9 (kt hg9 9 (kt hg8 9 (kt hg7 9 (hB7.is 10))))
 have k10_10 := kt hg10 10 (kt hg9 10 (kt hg8 10 (kt hg7 10 (hB7.is 11))))
 have k10_11 := kt hg10 11 (hB10.is 3)
 refine wp_block ?_
 refine wp_loop_n (fun m_ a_ W_ => ∃ g_ : Nat → Value, a_ = fr 105 g_ ∧ (∃ c : Int, m_ = (hi + 1 - c).toNat ∧ g_ 3 = .pointer (some ⟨(s1 0), 0, none⟩) ∧ g_ 4 = .pointer (some ⟨(s1 1), 0, none⟩) ∧ g_ 5 = .pointer (some ⟨(s1 2), 0, none⟩) ∧ g_ 6 = .bool false ∧ g_ 9 = .int .i64 mc ∧ g_ 10 = .int .i64 me ∧ g_ 11 = .int .i64 c ∧ Below w.heap.size w W_ ∧ W10.heap.size ≤ W_.heap.size ∧ W_.heap[(s1 0)]? = some (.cells #[.int .i64 b.tab, .slice a1 (b.panels.length) c1, .int .i64 b.height, .slice a2 (b.top.length) c2, .slice a3 (b.bottom.length) c3, .int .i64 b.slot, .bool b.isOpen] 24 (0, 0)) ∧ W_.heap[(s1 1)]? = some (.cells #[.int .i64 l1, .int .i64 (h1'), .int .i64 l2, .int .i64 (h2'), .int .i64 l3, .int .i64 (h3'), .int .i64 l4, .int .i64 (h4'), .int .i64 l5, .int .i64 (h5'), .bool wo] 43 (0, 0)) ∧ W_.heap[(s1 2)]? = some (.cells #[.int .i64 lo, .int .i64 hi, .int .i64 off] 63 (0, 0)) ∧ W_.heap[(s5 2)]? = some (.cells #[.int .i64 b.tab, .slice (some ⟨g91', 0, none⟩) (b.panels.length) c94', .int .i64 b.height, .slice (some ⟨g92', 0, none⟩) (b.top.length) c95', .slice (some ⟨g93', 0, none⟩) (b.bottom.length) c96', .int .i64 b.slot, .bool b.isOpen] 24 (0, 0)) ∧ Ii W_ (some ⟨g91', 0, none⟩) (b).panels.length c94' (b).panels ∧ g91' < W_.heap.size ∧ Ii W_ (some ⟨g92', 0, none⟩) (b).top.length c95' (b).top ∧ g92' < W_.heap.size ∧ Ii W_ (some ⟨g93', 0, none⟩) (b).bottom.length c96' (b).bottom ∧ g93' < W_.heap.size ∧ (lo ≤ c) ∧ (c ≤ hi + 1) ∧ (∀ d, lo ≤ d → d < c → closesOf b ⟨(l1, h1'), (l2, h2'), (l3, h3'), (l4, h4'), (l5, h5'), wo⟩ off d = false))) ⟨_, g10, rfl, lo, rfl, k10_3, k10_4, k10_5, k10_6, k10_9, k10_10, k10_11.trans (by rfl), fB10, Nat.le_refl _, b10_0, b10_1, b10_2, b10_3, q130', q131', q132', q133', q134', q135', (Int.le_refl _), (by omega), (fun d h1 h2 => absurd h2 (by omega))⟩ ?_
 rintro _ _ W_136 ⟨g_136, rfl, c, rfl, k_136_3, k_136_4, k_136_5, k_136_6, k_136_9, k_136_10, k_136_11, fB_136, z_136, b_136_0, b_136_1, b_136_2, b_136_3, q137', q138', q139', q140', q141', q142', lp0, lp1, lp2⟩
 refine wp_seq_k fun K19 hK19 => ?_
 refine rw_ 5 [(73, 0), (74, 1), (75, 2), (76, 3), (77, 4)] [[], [], [1], [2], [0, 3]] (rel [iI c, is (.pointer (some ⟨(s1 2), 0, none⟩)), is (.pointer (some ⟨(s1 2), 1, none⟩)), iI hi, iB (decide (c ≤ hi))])
  ⟨fun f s W i j l m n a => opm (a.v 11 k_136_11),
  fun f s W i j l m n a => opv rfl rfl (by simp [go_sem, a.e 5 k_136_5]) rfl,
  fun f s W i j l m n a => opv rfl rfl (by simp [go_sem, a.e 74 (j 1 rfl)]) rfl,
  fun f s W i j l m n a => opv rfl rfl (by simp [go_sem, a.e 75 (j 2 rfl), cb b_136_2 i 1]) rfl,
  fun f s W i j l m n a => opv rfl rfl (by simp [go_sem, a.e 73 (j 0 rfl), a.e 76 (j 3 rfl)]) rfl, trivial⟩ ?_
 intro f11 s11 W11 hB11 g11 hg11 z11
 have fB11 := hB11.f fB_136
 have b11_0 := hB11.b b_136_0
 have b11_1 := hB11.b b_136_1
 have b11_2 := hB11.b b_136_2
 have q143' := (q137'.bw hB11)
 have q144' := (hB11.lt q138')
 have q145' := (q139'.bw hB11)
 have q146' := (hB11.lt q140')
 have q147' := (q141'.bw hB11)
 have q148' := (hB11.lt q142')
 have k11_3 := kt hg11 3 k_136_3
 have k11_4 := kt hg11 4 k_136_4
 have k11_5 := kt hg11 5 k_136_5
 have k11_9 := kt hg11 9 k_136_9
 have k11_10 := kt hg11 10 k_136_10
 have k11_11 := kt hg11 11 k_136_11
 have k11_77 := kt hg11 77 (hB11.is 4)
 refine wp_cond_split (t := decide (c ≤ hi)) ((fr_eval rfl).trans k11_77) (fun hc21 => ?_) (fun hc21 => ?_)
 ·
  have hc21' := hc21; try simp only [ba] at hc21'
  refine wp_skip ?_
  refine hK19 _ _ ?_
  refine wp_seq_k fun K22 hK22 => ?_
  refine wp_block ?_
  refine rw_ 6 [(80, 0), (81, 1), (82, 2), (83, 3), (84, 4), (85, 5)] [[], [], [], [], [3], [0, 1, 2, 4]] (rel [is (.agg #[.int .i64 b.tab, .slice a1 (b.panels.length) c1, .int .i64 b.height, .slice a2 (b.top.length) c2, .slice a3 (b.bottom.length) c3, .int .i64 b.slot, .bool b.isOpen]), is (.agg #[.int .i64 l1, .int .i64 (h1'), .int .i64 l2, .int .i64 (h2'), .int .i64 l3, .int .i64 (h3'), .int .i64 l4, .int .i64 (h4'), .int .i64 l5, .int .i64 (h5'), .bool wo]), iI c, is (.pointer (some ⟨(s1 2), 2, none⟩)), iI off, iB (closesOf b ⟨(l1, h1'), (l2, h2'), (l3, h3'), (l4, h4'), (l5, h5'), wo⟩ off c)])
   ⟨fun f s W i j l m n a => opv rfl rfl (by simp [go_sem, a.e 3 k11_3, cb b11_0 i 0, cb b11_0 i 1, cb b11_0 i 2, cb b11_0 i 3, cb b11_0 i 4, cb b11_0 i 5, cb b11_0 i 6]) rfl,
  fun f s W i j l m n a => opv rfl rfl (by simp [go_sem, a.e 4 k11_4, cb b11_1 i 0, cb b11_1 i 1, cb b11_1 i 2, cb b11_1 i 3, cb b11_1 i 4, cb b11_1 i 5, cb b11_1 i 6, cb b11_1 i 7, cb b11_1 i 8, cb b11_1 i 9, cb b11_1 i 10]) rfl,
  fun f s W i j l m n a => opm (a.v 11 k11_11),
  fun f s W i j l m n a => opv rfl rfl (by simp [go_sem, a.e 5 k11_5]) rfl,
  fun f s W i j l m n a => opv rfl rfl (by simp [go_sem, a.e 83 (j 3 rfl), cb b11_2 i 2]) rfl,
  fun f s W i j l m n a => by have p := bwt fB11 i; exact opd rfl rfl (by simp [go_sem, a.e 80 (j 0 rfl), a.e 81 (j 1 rfl), a.e 82 (j 2 rfl), a.e 84 (j 4 rfl)]) (mayR_any a1 a2 a3 c1 c2 c3 b ⟨(l1, h1'), (l2, h2'), (l3, h3'), (l4, h4'), (l5, h5'), wo⟩ c off W (h1.below p (Nat.le_refl _)) (h2.below p (Nat.le_refl _)) (h3.below p (Nat.le_refl _)) hck hwi ⟨ho1, ho2⟩ (by omega)) ((fun e W' h => by have h1 := h.1; rw [mayR_eq] at h1; exact ⟨_, h1, h.2, rfl⟩)), trivial⟩ ?_
  intro f12 s12 W12 hB12 g12 hg12 z12
  have fB12 := hB12.f fB11
  have q149' := (q143'.bw hB12)
  have q150' := (hB12.lt q144')
  have q151' := (q145'.bw hB12)
  have q152' := (hB12.lt q146')
  have q153' := (q147'.bw hB12)
  have q154' := (hB12.lt q148')
  have k12_9 := kt hg12 9 k11_9
  have k12_10 := kt hg12 10 k11_10
  have k12_11 := kt hg12 11 k11_11
  have k12_85 := kt hg12 85 (hB12.is 5)
  refine wp_cond_split (t := closesOf b ⟨(l1, h1'), (l2, h2'), (l3, h3'), (l4, h4'), (l5, h5'), wo⟩ off c) ((fr_eval rfl).trans k12_85) (fun hc24 => ?_) (fun hc24 => ?_)
  ·
   have hc24' := hc24; try simp only [ba] at hc24'
   have hM' := mayFrom_at (hi + 1 - lo).toNat lo c lp0 (by omega) lp2 hc24
   rw [← mayOf_e3 hE hio, hM] at hM'
   have hme : (me == 0) = true := beq_iff_eq.2 (Prod.mk.inj hM').2
   have hmc : (mc == c) = true := beq_iff_eq.2 (Prod.mk.inj hM').1
   ·
    refine rw_ 11 [(86, 0), (87, 1), (88, 2), (89, 3), (90, 4), (91, 5), (92, 6), (93, 7), (94, 8), (95, 9), (6, 10)] [[], [0], [1], [2], [2], [2, 3, 4], [2, 5], [6], [7], [7, 8], [9]] (rel [iI me, iB true, iB true, iI mc, iI c, iB true, iB true, iB true, iB true, iB true, iB true])
     ⟨fun f s W i j l m n a => opm (a.v 10 k12_10),
  fun f s W i j l m n a => opv rfl rfl (by simp [go_sem, a.e 86 (j 0 rfl), hme]) rfl,
  fun f s W i j l m n a => opm (a.v 87 (j 1 rfl)),
  fun f s W i j l m n a => osure rfl rfl (a.says (d := 88) rfl rfl (j 2 rfl)) (gv (by simp [go_sem, a.e 9 k12_9]) rfl),
  fun f s W i j l m n a => osure rfl rfl (a.says (d := 88) rfl rfl (j 2 rfl)) (gv (by simp [go_sem, a.e 11 k12_11]) rfl),
  fun f s W i j l m n a => osure rfl rfl (a.says (d := 88) rfl rfl (j 2 rfl)) (gv (by simp [go_sem, a.e 89 (j 3 rfl), a.e 90 (j 4 rfl), hmc]) rfl),
  fun f s W i j l m n a => opk (c := true) rfl rfl (fun h => absurd h (by decide)) (fun _ => by simp [go_sem, a.e 88 (j 2 rfl), a.e 91 (j 5 rfl)]),
  fun f s W i j l m n a => opm (a.v 92 (j 6 rfl)),
  fun f s W i j l m n a => osure rfl rfl (a.says (d := 93) rfl rfl (j 7 rfl)) (gc (by simp [go_sem]) (known_any W)),
  fun f s W i j l m n a => opk (c := true) rfl rfl (fun h => absurd h (by decide)) (fun _ => by simp [go_sem, a.e 93 (j 7 rfl), a.e 94 (j 8 rfl)]),
  fun f s W i j l m n a => opm (a.v 95 (j 9 rfl)), trivial⟩ ?_
    intro f13 s13 W13 hB13 g13 hg13 z13
    have fB13 := hB13.f fB12
    have q155' := (q149'.bw hB13)
    have q156' := (hB13.lt q150')
    have q157' := (q151'.bw hB13)
    have q158' := (hB13.lt q152')
    have q159' := (q153'.bw hB13)
    have q160' := (hB13.lt q154')
    have k13_6 := kt hg13 6 (hB13.is 10)
    refine wp_ret ?_
    refine inBlock_ret (then_ret (then_ret (inBlock_ret (then_ret ?_))))
    refine leave_one (N := 105) (.inr rfl) Tryz.results6 rfl k13_6 ?_
    exact ⟨rfl, fB13⟩
  ·
   have hc24' := hc24; try simp only [ba] at hc24'
   refine wp_skip ?_
   refine ibn ?_
   refine hK22 _ _ ?_
   refine ry 3 [(78, 0), (79, 1), (11, 2)] [[], [0], [0, 1]] (rel [iI c, iI (c + 1), iI (c + 1)])
    ⟨fun f s W i j l m n a => opm (a.v 11 ((m 2 11 rfl rfl).trans k12_11)),
  fun f s W i j l m n a => opv rfl rfl (by simp [go_sem, a.e 78 (j 0 rfl), IntWalk.i64_in (c + 1) (by omega)]) rfl,
  fun f s W i j l m n a => opm (a.v 79 (j 1 rfl)), trivial⟩ ?_
   intro f14 s14 W14 hB14 g14 hg14 z14
   have fB14 := hB14.f fB12
   have b14_0 := hB14.b (hB12.b b11_0)
   have b14_1 := hB14.b (hB12.b b11_1)
   have b14_2 := hB14.b (hB12.b b11_2)
   have b14_3 := hB14.b (hB12.b (hB11.b b_136_3))
   have q161' := (q149'.bw hB14)
   have q162' := (hB14.lt q150')
   have q163' := (q151'.bw hB14)
   have q164' := (hB14.lt q152')
   have q165' := (q153'.bw hB14)
   have q166' := (hB14.lt q154')
   refine wpe ?_
   have k14_3 := kt hg14 3 (kt hg12 3 k11_3)
   have k14_4 := kt hg14 4 (kt hg12 4 k11_4)
   have k14_5 := kt hg14 5 (kt hg12 5 k11_5)
   have k14_6 := kt hg14 6 (kt hg12 6 (kt hg11 6 k_136_6))
   have k14_9 := kt hg14 9 k12_9
   have k14_10 := kt hg14 10 k12_10
   have k14_11 := kt hg14 11 (hB14.is 2)
   refine then_normal ?_
   exact ⟨_, by omega, g14, rfl, c + 1, rfl, k14_3, k14_4, k14_5, k14_6, k14_9, k14_10, k14_11.trans (by go_num), fB14, (by omega), b14_0, b14_1, b14_2, b14_3, q161', q162', q163', q164', q165', q166', (by omega), (by omega), (no_step lp2 hc24)⟩
 ·
  have hc21' := hc21; try simp only [ba] at hc21'
  have hM' := mayFrom_no (hi + 1 - lo).toNat lo fun d h1 h2 => lp2 d h1 (by omega)
  rw [← mayOf_e3 hE hio, hM] at hM'
  have hme : (me == 9) = true := beq_iff_eq.2 (Prod.mk.inj hM').2
  have hmc : (mc == 0) = true := beq_iff_eq.2 (Prod.mk.inj hM').1
  ·
   refine wp_exit ?_
   refine then_exit ?_
   refine then_exit ?_
   refine inBlock_at ?_
   refine hK17 _ _ ?_
   refine rw_ 10 [(96, 0), (97, 1), (98, 2), (99, 3), (100, 4), (101, 5), (102, 6), (103, 7), (104, 8), (6, 9)] [[], [0], [1], [2], [2, 3], [2, 4], [5], [6], [6, 7], [8]] (rel [iI me, iB true, iB true, iI mc, iB true, iB true, iB true, iB true, iB true, iB true])
    ⟨fun f s W i j l m n a => opm (a.v 10 k11_10),
  fun f s W i j l m n a => opv rfl rfl (by simp [go_sem, a.e 96 (j 0 rfl), hme]) rfl,
  fun f s W i j l m n a => opm (a.v 97 (j 1 rfl)),
  fun f s W i j l m n a => osure rfl rfl (a.says (d := 98) rfl rfl (j 2 rfl)) (gv (by simp [go_sem, a.e 9 k11_9]) rfl),
  fun f s W i j l m n a => osure rfl rfl (a.says (d := 98) rfl rfl (j 2 rfl)) (gv (by simp [go_sem, a.e 99 (j 3 rfl), hmc]) rfl),
  fun f s W i j l m n a => opk (c := true) rfl rfl (fun h => absurd h (by decide)) (fun _ => by simp [go_sem, a.e 98 (j 2 rfl), a.e 100 (j 4 rfl)]),
  fun f s W i j l m n a => opm (a.v 101 (j 5 rfl)),
  fun f s W i j l m n a => osure rfl rfl (a.says (d := 102) rfl rfl (j 6 rfl)) (gc (by simp [go_sem]) (known_any W)),
  fun f s W i j l m n a => opk (c := true) rfl rfl (fun h => absurd h (by decide)) (fun _ => by simp [go_sem, a.e 102 (j 6 rfl), a.e 103 (j 7 rfl)]),
  fun f s W i j l m n a => opm (a.v 104 (j 8 rfl)), trivial⟩ ?_
   intro f15 s15 W15 hB15 g15 hg15 z15
   have fB15 := hB15.f fB11
   have q167' := (q143'.bw hB15)
   have q168' := (hB15.lt q144')
   have q169' := (q145'.bw hB15)
   have q170' := (hB15.lt q146')
   have q171' := (q147'.bw hB15)
   have q172' := (hB15.lt q148')
   have k15_6 := kt hg15 6 (hB15.is 9)
   refine wp_ret ?_
   refine leave_one (N := 105) (.inr rfl) Tryz.results6 rfl k15_6 ?_
   exact ⟨rfl, fB15⟩
theorem mays_law (a1 a2 a3 : Option Addr) (c1 c2 c3 : Nat) (b : Bl) (l1 h1' l2 h2' l3 h3' l4 h4' l5 h5' : Int) (wo : Bool) (lo hi off : Int) (w : World) (h1 : Ii w a1 b.panels.length c1 b.panels) (h2 : Ii w a2 b.top.length c2 b.top) (h3 : Ii w a3 b.bottom.length c3 b.bottom) : Calls Tryz.prog 6 #[.agg #[.int .i64 b.tab, .slice a1 (b.panels.length) c1, .int .i64 b.height, .slice a2 (b.top.length) c2, .slice a3 (b.bottom.length) c3, .int .i64 b.slot, .bool b.isOpen], .agg #[.int .i64 l1, .int .i64 (h1'), .int .i64 l2, .int .i64 (h2'), .int .i64 l3, .int .i64 (h3'), .int .i64 l4, .int .i64 (h4'), .int .i64 l5, .int .i64 (h5'), .bool wo], .agg #[.int .i64 lo, .int .i64 hi, .int .i64 off]] w (fun e w' => e = .returned (.bool true) ∧ Below w.heap.size w w') := by
  by_cases hE : wishedErr b ⟨(l1, h1'), (l2, h2'), (l3, h3'), (l4, h4'), (l5, h5'), wo⟩ [(lo, hi)] = 0
  · have hl := good_small (wished_parts hE).1
    cases hio : inB off 0 5 with
    | false => exact mays_bad2 a1 a2 a3 c1 c2 c3 b l1 h1' l2 h2' l3 h3' l4 h4' l5 h5' wo lo hi off w h1 h2 h3 hl hE hio
    | true =>
      have hs := isSpan_iff.1 (wished_span hE)
      by_cases hf : 60 < hi - lo
      · exact mays_far a1 a2 a3 c1 c2 c3 b l1 h1' l2 h2' l3 h3' l4 h4' l5 h5' wo lo hi off w h1 h2 h3 hl hE hio hs hf
      · exact mays_main a1 a2 a3 c1 c2 c3 b l1 h1' l2 h2' l3 h3' l4 h4' l5 h5' wo lo hi off w h1 h2 h3 hl hE hio hs hf _ _ rfl
  · exact mays_bad1 a1 a2 a3 c1 c2 c3 b l1 h1' l2 h2' l3 h3' l4 h4' l5 h5' wo lo hi off w h1 h2 h3 _ rfl (bne_iff_ne.2 hE)
end Go.Proofs.YthnediamopehfaaGreat
