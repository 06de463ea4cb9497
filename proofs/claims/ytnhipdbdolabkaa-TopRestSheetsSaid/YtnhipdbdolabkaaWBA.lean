/- Part of the proof: what the claim leans on. -/
import Derived.Test.YtnhipdbdolabkaaWAW
import Derived.Test.YtnhipdbdolabkaaWAG
set_option linter.unusedSimpArgs false
set_option linter.unusedVariables false
namespace Go.Proofs.Ytnhipdbdolabkaa
open Go.RowKit
theorem planF_ok {p : Tp} {os : Nat → To} {L : List (List Int)} {q : Se} : ∀ (c n : Nat), n + c ≤ 4 → planF (seN p os L) c n = some q → PlOk L q.best ∧ q.best.length ≤ 3
  | 0, n, _, h => by cases h
  | c + 1, n, hn, h => by
    rw [planF] at h
    split at h
    · cases h
      exact tryF_ok p os 3 L n [] 0 0 [0, 0, 0] ⟨[], 0, false⟩ (fun x h => nomatch h) (Nat.zero_le _) (by simp; omega) ⟨fun x h => (nomatch h), Nat.zero_le _⟩
    · exact planF_ok c (n + 1) (by omega) h
theorem plX_len {p : Tp} {os : Nat → To} {no : Nat} {L : List (List Int)} {pl : List (Nat × Int)} (hL : LOk p os no L) (h : PlOk L pl) {j : Nat} (hj : j < pl.length) : (plX L pl j).1.length = no := by
  unfold plX
  rw [List.getD_eq_getElem?_getD, List.getElem?_eq_getElem hj]
  exact hL.n _ (h _ (List.getElem_mem hj))
set_option maxRecDepth 100000 in
set_option maxHeartbeats 8000000 in
theorem tr_Plan (p : Tp) (os : Nat → To) (bo oo co : Nat) (q : Se) (w : World) (hO : OrdR w bo oo 3 os) (hp : TpIn p) (ho : ∀ i, i < 3 → ToIn (os i)) (hq : planF (seN p os (patL p os 3 3 [])) 4 0 = some q) :
  Calls Try.prog 20 #[.agg #[.int .i64 p.wide, .int .i64 p.tlo, .int .i64 p.thi, .int .i64 p.webs], .slice (some ⟨bo, oo, none⟩) (3) (co)] w (fun e w' => ∃ v, e = .returned (.tuple #[v, .int .i64 0]) ∧ IsPlan q.best.length (plX (patL p os 3 3 []) q.best) v w' ∧ Below w.heap.size w w') := by
 have hok_ := planF_ok 4 0 (by decide) hq
 refine calls_fr Try.func20 Try.ntmps20 rfl rfl fun g hg => ?_
 have k0 : g 0 = .agg #[.int .i64 p.wide, .int .i64 p.tlo, .int .i64 p.thi, .int .i64 p.webs] := hg 0
 have k1 : g 1 = .slice (some ⟨bo, oo, none⟩) (3) (co) := hg 1
 clear hg
 have fB0 : Below w.heap.size w w := Below.refl _ _
 refine wp_seq_k fun K1 hK1 => ?_
 refine region_dk 3 [(2, 0), (4, 1), (5, 2)] [[], [], [1]] (rel [bx 0 #[.int .i64 p.wide, .int .i64 p.tlo, .int .i64 p.thi, .int .i64 p.webs] 35,
   is (.slice (none) (0) (0)),
   is (.int .i64 0)])
  ⟨bx_k, is_k, is_k, trivial⟩
  ⟨fun f s W c d k l m a => opb rfl rfl (by simp [go_sem, a.e 0 k0]),
  fun f s W c d k l m a => opv rfl rfl (by simp [go_sem]) rfl,
  fun f s W c d k l m a => opv rfl rfl (by simp [go_sem]) rfl, trivial⟩ ?_
 intro f1 s1 W1 hB1 g1 hg1
 have fB1 := hB1.f fB0
 have z1 := hB1.below.size
 obtain ⟨r1_0, br1_0⟩ := hB1.is 0
 have lr1_0 := hB1.lr 0 br1_0
 refine hK1 _ _ ?_
 have k1_1 := kt hg1 1 k1
 have k1_2 := kt hg1 2 r1_0
 have k1_4 := kt hg1 4 (hB1.is 1)
 have k1_5 := kt hg1 5 (hB1.is 2)
 refine wp_seq_k fun K2 hK2 => ?_
 refine region_dk 7 [(12, 0), (13, 1), (14, 2), (11, 3), (15, 4), (16, 5), (6, 6), (7, 8)] [[], [], [0, 1], [0, 1, 2], [0, 1, 2, 3], [0, 1, 2, 3], [], [0, 1, 2, 3, 4, 6], [0, 1, 2, 3, 4, 5, 6, 7]] (rel [is (.agg #[.int .i64 p.wide, .int .i64 p.tlo, .int .i64 p.thi, .int .i64 p.webs]),
   is (.slice (some ⟨bo, oo, none⟩) (3) (co)),
   is (.tuple #[.agg #[.int .i64 p.wide, .int .i64 p.tlo, .int .i64 p.thi, .int .i64 p.webs, .slice (some ⟨bo, oo, none⟩) (3) (co)], .int .i64 0]),
   is (.tuple #[.agg #[.int .i64 p.wide, .int .i64 p.tlo, .int .i64 p.thi, .int .i64 p.webs, .slice (some ⟨bo, oo, none⟩) (3) (co)], .int .i64 0]),
   is (.agg #[.int .i64 p.wide, .int .i64 p.tlo, .int .i64 p.thi, .int .i64 p.webs, .slice (some ⟨bo, oo, none⟩) (3) (co)]),
   is (.int .i64 0),
   bx 6 #[.int .i64 0, .int .i64 0, .int .i64 0, .int .i64 0, .slice (none) (0) (0)] 87])
  ⟨is_k, is_k, is_k, is_k, is_k, is_k, bx_k, trivial⟩
  ⟨fun f s W c d k l m a => opl rfl rfl rfl (a.v 2 k1_2) (blk_below br1_0 c) Try.underlying35 rfl (by kernel_rfl) rfl,
  fun f s W c d k l m a => opv rfl rfl (by simp [go_sem, a.e 1 k1_1]) rfl,
  fun f s W c d k l m a => by have n := below_trans fB1 c; exact opc rfl rfl (by simp [go_sem, a.e 12 (d 0 rfl), a.e 13 (d 1 rfl)]) (tr_open p os bo oo 3 co W (hO.below n) hp ho (by decide)),
  fun f s W c d k l m a => opv rfl rfl (by simp [go_sem, a.e 14 (d 2 rfl)]) rfl,
  fun f s W c d k l m a => opv rfl rfl (by simp [go_sem, a.e 11 (d 3 rfl)]) rfl,
  fun f s W c d k l m a => opv rfl rfl (by simp [go_sem, a.e 11 (d 3 rfl)]) rfl,
  fun f s W c d k l m a => opb rfl rfl (by simp [go_sem]), trivial⟩ ?_
 intro f2 s2 W2 hB2 g2 hg2
 have fB2 := hB2.f fB1
 have z2 := hB2.below.size
 have b2_0 := hB2.b br1_0
 obtain ⟨r2_6, br2_6⟩ := hB2.is 6
 have lr2_6 := hB2.lr 6 br2_6
 have k2_4 := kt hg2 4 k1_4
 have k2_5 := kt hg2 5 k1_5
 have k2_15 := kt hg2 15 (hB2.is 4)
 have k2_16 := kt hg2 16 (hB2.is 5)
 have k2_6 := kt hg2 6 r2_6
 obtain ⟨W3, hW3⟩ : ∃ W', W' = W2.setRow (s2 6) #[.int .i64 p.wide, .int .i64 p.tlo, .int .i64 p.thi, .int .i64 p.webs, .slice (some ⟨bo, oo, none⟩) (3) (co)] := ⟨_, rfl⟩
 refine tail_skip (o := _) rfl ⟨rfl, rfl⟩ (run_seg hW3 (fr_ev k2_6) (fr_ev k2_15) br2_6 rfl rfl rfl rfl) ?_
 obtain ⟨fB3, nb3, ot3, z3⟩ := seg_facts hW3 fB2 br2_6 (by omega)
 clear hW3
 have b3_0 := ot3 _ _ (by omega) b2_0
 refine tail_value (o := _) rfl rfl rfl (v := .int .i64 0) (by simp [go_sem, frv 30 k2_16]) ?_
 generalize hg4 : upd g2 7 (.int .i64 0) = g4
 have k4_4 := ku hg4 4 k2_4
 have k4_5 := ku hg4 5 k2_5
 have k4_6 := ku hg4 6 k2_6
 have k4_7 := kt hg4 7 (upd_same _ _ _)
 refine wpOps_end ?_
 refine hK2 _ _ ?_
 refine wp_seq_k fun K3 hK3 => ?_
 refine wp_seq_k fun K4 hK4 => ?_
 refine region_dk 2 [(17, 0), (18, 1)] [[], [0]] (rel [is (.int .i64 0),
   is (.bool false)])
  ⟨is_k, is_k, trivial⟩
  ⟨fun f s W c d k l m a => opv rfl rfl (by simp [go_sem, a.e 7 k4_7]) rfl,
  fun f s W c d k l m a => opv rfl rfl (by simp [go_sem, a.e 17 (d 0 rfl)]) rfl, trivial⟩ ?_
 intro f5 s5 W5 hB5 g5 hg5
 have fB5 := hB5.f fB3
 have z5 := hB5.below.size
 have b5_0 := hB5.b b3_0
 have b5_1 := hB5.b nb3
 refine hK4 _ _ ?_
 have k5_4 := kt hg5 4 k4_4
 have k5_5 := kt hg5 5 k4_5
 have k5_6 := kt hg5 6 k4_6
 have k5_7 := kt hg5 7 k4_7
 have k5_18 := kt hg5 18 (hB5.is 1)
 refine wp_cond_false ((fr_eval rfl).trans k5_18) ?_
 refine wp_skip ?_
 refine hK3 _ _ ?_
 refine wp_seq_k fun K6 hK6 => ?_
 refine region_dk 9 [(21, 0), (22, 1), (20, 2), (23, 3), (24, 4), (25, 5), (8, 6), (9, 7), (10, 8)] [[], [0], [0, 1], [0, 1, 2], [0, 1, 2], [0, 1, 2], [0, 1, 2, 3], [0, 1, 2, 3, 4, 6], [0, 1, 2, 3, 4, 5, 6, 7]] (rel [is (.agg #[.int .i64 p.wide, .int .i64 p.tlo, .int .i64 p.thi, .int .i64 p.webs, .slice (some ⟨bo, oo, none⟩) (3) (co)]),
   ab fun v W => ∃ x0, v = .tuple #[x0, .int .i64 q.waste, .bool true] ∧ IsPlan (q.best.length) (plX (patL p os 3 3 []) q.best) x0 W,
   ab fun v W => ∃ x0, v = .tuple #[x0, .int .i64 q.waste, .bool true] ∧ IsPlan (q.best.length) (plX (patL p os 3 3 []) q.best) x0 W,
   ab fun v W => IsPlan (q.best.length) (plX (patL p os 3 3 []) q.best) v W,
   is (.int .i64 q.waste),
   is (.bool true),
   ab fun v W => IsPlan (q.best.length) (plX (patL p os 3 3 []) q.best) v W,
   is (.int .i64 q.waste),
   is (.bool true)])
  ⟨is_k, ab_k fun v W W' hb ⟨x0, e, h0⟩ => ⟨x0, e, (h0.below hb)⟩, ab_k fun v W W' hb ⟨x0, e, h0⟩ => ⟨x0, e, (h0.below hb)⟩, ab_k fun v W W' hb h => (h.below hb), is_k, is_k, ab_k fun v W W' hb h => (h.below hb), is_k, is_k, trivial⟩
  ⟨fun f s W c d k l m a => opl rfl rfl rfl (a.v 6 k5_6) (blk_below b5_1 c) Try.underlying87 rfl (by kernel_rfl) rfl,
  fun f s W c d k l m a => by have n := below_trans fB5 c; exact opDo_call rfl rfl (by simp [go_sem, a.e 21 (d 0 rfl)]) (plan_some p os bo oo co q W (hO.below n) hp ho hq) ((fun e W' h => by obtain ⟨v, e1, h1, h2, h3⟩ := h; exact ⟨_, e1, h3, ⟨v, rfl, h1⟩⟩)),
  fun f s W c d k l m a => opv (v := (f 1)) rfl rfl (by simp [go_sem, (a.at' 22 rfl : m.tmps[22]?.getD undef = f 1)] <;> rfl) (d 1 rfl),
  fun f s W c d k l m a => by obtain ⟨x2_0, d2, p2_0⟩ := (d 2 rfl); exact opv (v := x2_0) rfl rfl (by simp [go_sem, a.e 20 d2]) p2_0,
  fun f s W c d k l m a => by obtain ⟨x2_0, d2, p2_0⟩ := (d 2 rfl); exact opv rfl rfl (by simp [go_sem, a.e 20 d2]) rfl,
  fun f s W c d k l m a => by obtain ⟨x2_0, d2, p2_0⟩ := (d 2 rfl); exact opv rfl rfl (by simp [go_sem, a.e 20 d2]) rfl,
  fun f s W c d k l m a => opv (v := (f 3)) rfl rfl (by simp [go_sem, (a.at' 23 rfl : m.tmps[23]?.getD undef = f 3)] <;> rfl) (d 3 rfl),
  fun f s W c d k l m a => opv rfl rfl (by simp [go_sem, a.e 24 (d 4 rfl)]) rfl,
  fun f s W c d k l m a => opv rfl rfl (by simp [go_sem, a.e 25 (d 5 rfl)]) rfl, trivial⟩ ?_
 intro f6 s6 W6 hB6 g6 hg6
 have fB6 := hB6.f fB5
 have z6 := hB6.below.size
 have b6_0 := hB6.b b5_0
 have b6_1 := hB6.b b5_1
 obtain ⟨a10', c11', b12', o13', ad14', cp15', r6_6, q18', q17', q16'⟩ := hB6.is 6
 refine hK6 _ _ ?_
 have k6_4 := kt hg6 4 k5_4
 have k6_5 := kt hg6 5 k5_5
 have k6_8 := kt hg6 8 r6_6
 have k6_10 := kt hg6 10 (hB6.is 8)
 refine wp_seq_k fun K7 hK7 => ?_
 refine wp_seq_k fun K8 hK8 => ?_
 refine region_dk 2 [(26, 0), (27, 1)] [[], [0]] (rel [is (.bool true),
   is (.bool false)])
  ⟨is_k, is_k, trivial⟩
  ⟨fun f s W c d k l m a => opv rfl rfl (by simp [go_sem, a.e 10 k6_10]) rfl,
  fun f s W c d k l m a => opv rfl rfl (by simp [go_sem, a.e 26 (d 0 rfl)]) rfl, trivial⟩ ?_
 intro f7 s7 W7 hB7 g7 hg7
 have fB7 := hB7.f fB6
 have z7 := hB7.below.size
 have b7_0 := hB7.b b6_0
 have b7_1 := hB7.b b6_1
 have q19' := (q16'.below hB7.below)
 have q20' := q17'
 have q21' := q18'
 refine hK8 _ _ ?_
 have k7_4 := kt hg7 4 k6_4
 have k7_5 := kt hg7 5 k6_5
 have k7_8 := kt hg7 8 k6_8
 have k7_27 := kt hg7 27 (hB7.is 1)
 refine wp_cond_false ((fr_eval rfl).trans k7_27) ?_
 refine wp_skip ?_
 refine hK7 _ _ ?_
 refine wp_seq_k fun K10 hK10 => ?_
 refine region_dk 4 [(28, 0), (29, 1), (4, 2), (5, 3)] [[], [0], [0, 1], [0, 1, 2]] (rel [is (.slice (a10') (q.best.length) (c11')),
   ab fun v W => IsPlan (q.best.length) (plX (patL p os 3 3 []) q.best) v W,
   ab fun v W => IsPlan (q.best.length) (plX (patL p os 3 3 []) q.best) v W,
   is (.int .i64 0)])
  ⟨is_k, ab_k fun v W W' hb h => (h.below hb), ab_k fun v W W' hb h => (h.below hb), is_k, trivial⟩
  ⟨fun f s W c d k l m a => opv rfl rfl (by simp [go_sem, a.e 8 k7_8]) rfl,
  fun f s W c d k l m a => opDo_call rfl rfl (by simp [go_sem, a.e 28 (d 0 rfl)]) (trOwn_any q.best.length c11' b12' o13' a10' (plX (patL p os 3 3 []) q.best) ad14' cp15' W q20' ((q19'.below c)) (by omega) (fun j hj => by rw [plX_len (patL_ok hp ho) hok_.1 hj]; decide)) ((fun e W' h => by obtain ⟨v, e1, h1, h2⟩ := h; exact ⟨_, e1, h2, h1⟩)),
  fun f s W c d k l m a => opv (v := (f 1)) rfl rfl (by simp [go_sem, (a.at' 29 rfl : m.tmps[29]?.getD undef = f 1)] <;> rfl) (d 1 rfl),
  fun f s W c d k l m a => opv rfl rfl (by simp [go_sem]) rfl, trivial⟩ ?_
 intro f8 s8 W8 hB8 g8 hg8
 have fB8 := hB8.f fB7
 have z8 := hB8.below.size
 have b8_0 := hB8.b b7_0
 have b8_1 := hB8.b b7_1
 have q31' := (q19'.below hB8.below)
 have q32' := q20'
 have q33' := q21'
 obtain ⟨a34', c35', b36', o37', ad38', cp39', r8_2, q42', q41', q40'⟩ := hB8.is 2
 refine hK10 _ _ ?_
 have k8_4 := kt hg8 4 r8_2
 have k8_5 := kt hg8 5 (hB8.is 3)
 refine wp_ret ?_
 refine leave_gen (v := .tuple #[.slice (a34') (q.best.length) (c35'), .int .i64 0]) (.inr rfl) (by simp [results, Try.results20, go_sem, frv 30 k8_4, frv 30 k8_5]) ?_
 exact ⟨_, rfl, ⟨_, _, _, _, _, _, rfl, q42', q41', q40'⟩, fB8⟩
set_option maxRecDepth 100000 in
set_option maxHeartbeats 4000000 in
theorem pubSame_yes (aa ab_ : Option Addr) (ca cb_ : Nat) (xs : List Int) (w : World) (hA : Ii w aa xs.length ca xs) (hB_ : Ii w ab_ xs.length cb_ xs) (gn : xs.length ≤ 1000) :
  Calls Try.prog 33 #[.slice (aa) (xs.length) (ca), .slice (ab_) (xs.length) (cb_)] w (fun e w' => e = .returned (.bool true) ∧ Below w.heap.size w w') := by
 obtain ⟨ba_, oa_, ha_⟩ := hA.open
 obtain ⟨bb_, ob_, hb_⟩ := hB_.open
 refine calls_fr Try.func33 Try.ntmps33 rfl rfl fun g hg => ?_
 have k0 : g 0 = .slice (aa) (xs.length) (ca) := hg 0
 have k1 : g 1 = .slice (ab_) (xs.length) (cb_) := hg 1
 clear hg
 have fB0 : Below w.heap.size w w := Below.refl _ _
 refine wp_seq_k fun K1 hK1 => ?_
 refine region_dk 1 [(4, 0)] [[]] (rel [is (.bool false)])
  ⟨is_k, trivial⟩
  ⟨fun f s W b c d h i a => opv rfl rfl (by simp [go_sem]) rfl, trivial⟩ ?_
 intro f1 s1 W1 hB1 g1 hg1
 have fB1 := hB1.f fB0
 have z1 := hB1.below.size
 refine hK1 _ _ ?_
 have k1_0 := kt hg1 0 k0
 have k1_1 := kt hg1 1 k1
 have k1_4 := kt hg1 4 (hB1.is 0)
 refine wp_seq_k fun K2 hK2 => ?_
 refine wp_seq_k fun K3 hK3 => ?_
 refine region_dk 5 [(6, 0), (7, 1), (8, 2), (9, 3), (10, 4)] [[], [0], [], [2], [0, 1, 2, 3]] (rel [is (.slice (aa) (xs.length) (ca)),
   is (.int .i64 ((xs.length : Int))),
   is (.slice (ab_) (xs.length) (cb_)),
   is (.int .i64 ((xs.length : Int))),
   is (.bool false)])
  ⟨is_k, is_k, is_k, is_k, is_k, trivial⟩
  ⟨fun f s W b c d h i a => opv rfl rfl (by simp [go_sem, a.e 0 k1_0]) rfl,
  fun f s W b c d h i a => opv rfl rfl (by simp [go_sem, a.e 6 (c 0 rfl)]) rfl,
  fun f s W b c d h i a => opv rfl rfl (by simp [go_sem, a.e 1 k1_1]) rfl,
  fun f s W b c d h i a => opv rfl rfl (by simp [go_sem, a.e 8 (c 2 rfl)]) rfl,
  fun f s W b c d h i a => opv rfl rfl (by simp [go_sem, a.e 7 (c 1 rfl), a.e 9 (c 3 rfl)]) rfl, trivial⟩ ?_
 intro f2 s2 W2 hB2 g2 hg2
 have fB2 := hB2.f fB1
 have z2 := hB2.below.size
 refine hK3 _ _ ?_
 have k2_0 := kt hg2 0 k1_0
 have k2_1 := kt hg2 1 k1_1
 have k2_4 := kt hg2 4 k1_4
 have k2_10 := kt hg2 10 (hB2.is 4)
 refine wp_cond_false ((fr_eval rfl).trans k2_10) ?_
 refine wp_skip ?_
 refine hK2 _ _ ?_
 refine wp_seq_k fun K5 hK5 => ?_
 refine wp_seq_k fun K6 hK6 => ?_
 refine region_dk 1 [(5, 0)] [[]] (rel [is (.int .i64 0)])
  ⟨is_k, trivial⟩
  ⟨fun f s W b c d h i a => opv rfl rfl (by simp [go_sem]) rfl, trivial⟩ ?_
 intro f3 s3 W3 hB3 g3 hg3
 have fB3 := hB3.f fB2
 have z3 := hB3.below.size
 refine hK6 _ _ ?_
 have k3_0 := kt hg3 0 k2_0
 have k3_1 := kt hg3 1 k2_1
 have k3_4 := kt hg3 4 k2_4
 have k3_5 := kt hg3 5 (hB3.is 0)
 refine wp_block ?_
 refine wp_loop_n (fun m_ a_ W_ => ∃ g_ : Nat → Value, a_ = fr 26 g_ ∧ (∃ k : Nat, m_ = xs.length - k ∧ g_ 0 = .slice (aa) (xs.length) (ca) ∧ g_ 1 = .slice (ab_) (xs.length) (cb_) ∧ g_ 4 = .bool false ∧ g_ 5 = .int .i64 ((k : Int)) ∧ Below w.heap.size w W_ ∧ W3.heap.size ≤ W_.heap.size ∧ (k ≤ xs.length))) ⟨_, g3, rfl, 0, rfl, k3_0, k3_1, k3_4, k3_5.trans (by rfl), fB3, Nat.le_refl _, (by omega)⟩ ?_
 rintro _ _ W_43 ⟨g_43, rfl, k, rfl, k_43_0, k_43_1, k_43_4, k_43_5, fB_43, z_43, lk0⟩
 refine wp_seq_k fun K7 hK7 => ?_
 refine wp_seq_k fun K8 hK8 => ?_
 refine region_dk 4 [(11, 0), (12, 1), (13, 2), (14, 3)] [[], [], [1], [0, 1, 2]] (rel [is (.int .i64 ((k : Int))),
   is (.slice (aa) (xs.length) (ca)),
   is (.int .i64 ((xs.length : Int))),
   is (.bool (decide ((k : Int) < (xs.length : Int))))])
  ⟨is_k, is_k, is_k, is_k, trivial⟩
  ⟨fun f s W b c d h i a => opv rfl rfl (by simp [go_sem, a.e 5 k_43_5]) rfl,
  fun f s W b c d h i a => opv rfl rfl (by simp [go_sem, a.e 0 k_43_0]) rfl,
  fun f s W b c d h i a => opv rfl rfl (by simp [go_sem, a.e 12 (c 1 rfl)]) rfl,
  fun f s W b c d h i a => opv rfl rfl (by simp [go_sem, a.e 11 (c 0 rfl), a.e 13 (c 2 rfl)]) rfl, trivial⟩ ?_
 intro f4 s4 W4 hB4 g4 hg4
 have fB4 := hB4.f fB_43
 have z4 := hB4.below.size
 refine hK8 _ _ ?_
 have k4_0 := kt hg4 0 k_43_0
 have k4_1 := kt hg4 1 k_43_1
 have k4_4 := kt hg4 4 k_43_4
 have k4_5 := kt hg4 5 k_43_5
 have k4_14 := kt hg4 14 (hB4.is 3)
 refine wp_cond_split (t := decide ((k : Int) < (xs.length : Int))) ((fr_eval rfl).trans k4_14) (fun hc9 => ?_) (fun hc9 => ?_)
 ·
  have hc9' := hc9; try simp only [ba] at hc9'
  have hkn : k < xs.length := by omega
  refine wp_skip ?_
  refine hK7 _ _ ?_
  refine wp_seq_k fun K10 hK10 => ?_
  refine wp_block ?_
  refine wp_seq_k fun K11 hK11 => ?_
  refine region_dk 9 [(17, 0), (18, 1), (19, 2), (20, 3), (21, 4), (22, 5), (23, 6), (24, 7), (25, 8)] [[], [], [0, 1], [0, 1, 2], [], [], [4, 5], [4, 5, 6], [0, 1, 2, 3, 4, 5, 6, 7]] (rel [is (.slice (aa) (xs.length) (ca)),
   is (.int .i64 ((k : Int))),
   is (.pointer (some ⟨ba_, oa_ + k, none⟩)),
   is (.int .i64 ((elT xs k))),
   is (.slice (ab_) (xs.length) (cb_)),
   is (.int .i64 ((k : Int))),
   is (.pointer (some ⟨bb_, ob_ + k, none⟩)),
   is (.int .i64 ((elT xs k))),
   is (.bool false)])
   ⟨is_k, is_k, is_k, is_k, is_k, is_k, is_k, is_k, is_k, trivial⟩
   ⟨fun f s W b c d h i a => opv rfl rfl (by simp [go_sem, a.e 0 k4_0]) rfl,
  fun f s W b c d h i a => opv rfl rfl (by simp [go_sem, a.e 5 k4_5]) rfl,
  fun f s W b c d h i a => by have hab := (ha_ (by omega)).1; have li_ := Nat.not_le.2 (show k < xs.length by omega); have li2_ : (k : Int) < (xs.length : Int) := (by omega); exact opv rfl rfl (by simp [go_sem, a.e 17 (c 0 rfl), a.e 18 (c 1 rfl), hab, li_, li2_]) rfl,
  fun f s W b c d h i a => by have j := below_trans fB4 b; have cu_ := (ha_ (by omega)).2 W j k (by omega); exact opv rfl rfl (by simp [go_sem, a.e 19 (c 2 rfl), cu_]) rfl,
  fun f s W b c d h i a => opv rfl rfl (by simp [go_sem, a.e 1 k4_1]) rfl,
  fun f s W b c d h i a => opv rfl rfl (by simp [go_sem, a.e 5 k4_5]) rfl,
  fun f s W b c d h i a => by have hab := (hb_ (by omega)).1; have li_ := Nat.not_le.2 (show k < xs.length by omega); have li2_ : (k : Int) < (xs.length : Int) := (by omega); exact opv rfl rfl (by simp [go_sem, a.e 21 (c 4 rfl), a.e 22 (c 5 rfl), hab, li_, li2_]) rfl,
  fun f s W b c d h i a => by have j := below_trans fB4 b; have cu_ := (hb_ (by omega)).2 W j k (by omega); exact opv rfl rfl (by simp [go_sem, a.e 23 (c 6 rfl), cu_]) rfl,
  fun f s W b c d h i a => opv rfl rfl (by simp [go_sem, a.e 20 (c 3 rfl), a.e 24 (c 7 rfl)]) rfl, trivial⟩ ?_
  intro f5 s5 W5 hB5 g5 hg5
  have fB5 := hB5.f fB4
  have z5 := hB5.below.size
  refine hK11 _ _ ?_
  have k5_0 := kt hg5 0 k4_0
  have k5_1 := kt hg5 1 k4_1
  have k5_4 := kt hg5 4 k4_4
  have k5_5 := kt hg5 5 k4_5
  have k5_25 := kt hg5 25 (hB5.is 8)
  refine wp_cond_false ((fr_eval rfl).trans k5_25) ?_
  refine wp_skip ?_
  refine inBlock_normal ?_
  refine hK10 _ _ ?_
  refine region_dk 3 [(15, 0), (16, 1), (5, 2)] [[], [0], [0, 1]] (rel [is (.int .i64 ((k : Int))),
   is (.int .i64 ((k : Int) + 1)),
   is (.int .i64 ((k : Int) + 1))])
   ⟨is_k, is_k, is_k, trivial⟩
   ⟨fun f s W b c d h i a => opv rfl rfl (by simp [go_sem, a.e 5 ((h 2 5 rfl rfl).trans k5_5)]) rfl,
  fun f s W b c d h i a => opv rfl rfl (by simp [go_sem, a.e 15 (c 0 rfl), IntWalk.i64_in ((k : Int) + 1) (by omega)]) rfl,
  fun f s W b c d h i a => opv rfl rfl (by simp [go_sem, a.e 16 (c 1 rfl)]) rfl, trivial⟩ ?_
  intro f6 s6 W6 hB6 g6 hg6
  have fB6 := hB6.f fB5
  have z6 := hB6.below.size
  refine wpOps_end ?_
  have k6_0 := kt hg6 0 k5_0
  have k6_1 := kt hg6 1 k5_1
  have k6_4 := kt hg6 4 k5_4
  have k6_5 := kt hg6 5 (hB6.is 2)
  refine then_normal ?_
  exact ⟨_, by omega, g6, rfl, k + 1, rfl, k6_0, k6_1, k6_4, k6_5.trans (by go_num), fB6, (by omega), (by omega)⟩
 ·
  have hc9' := hc9; try simp only [ba] at hc9'
  refine wp_exit ?_
  refine then_exit ?_
  refine then_exit ?_
  refine inBlock_at ?_
  refine hK5 _ _ ?_
  refine wp_seq_k fun K13 hK13 => ?_
  refine region_dk 1 [(4, 0)] [[]] (rel [is (.bool true)])
   ⟨is_k, trivial⟩
   ⟨fun f s W b c d h i a => opv rfl rfl (by simp [go_sem]) rfl, trivial⟩ ?_
  intro f7 s7 W7 hB7 g7 hg7
  have fB7 := hB7.f fB4
  have z7 := hB7.below.size
  refine hK13 _ _ ?_
  have k7_4 := kt hg7 4 (hB7.is 0)
  refine wp_ret ?_
  refine leave_one (N := 26) (v := .bool true) (.inr rfl) Try.results33 rfl k7_4 ?_
  exact ⟨rfl, fB7⟩
/-- The document's example. -/
def exP : Tp := ⟨2500, 20, 400, 4⟩
def exO : Nat → To
  | 0 => ⟨800, 10, 12⟩
  | 1 => ⟨700, 8, 9⟩
  | _ => ⟨1200, 4, 4⟩
def exL : List (List Int) := [[0, 0, 2], [0, 3, 0], [1, 2, 0], [2, 1, 0], [3, 0, 0]]
def exQ : Se := ⟨[(0, 2), (1, 1), (3, 5)], 1600, true⟩
theorem exP_in : TpIn exP := ⟨by decide, by decide, by decide⟩
theorem exO_in : ∀ i, i < 3 → ToIn (exO i) := fun i hi => by
  match i, hi with
  | 0, _ => exact ⟨by decide, by decide⟩
  | 1, _ => exact ⟨by decide, by decide⟩
  | 2, _ => exact ⟨by decide, by decide⟩
theorem exL_is : patL exP exO 3 3 [] = exL := by kernel_rfl
theorem exQ_is : planF (seN exP exO (patL exP exO 3 3 [])) 4 0 = some exQ := by
  rw [exL_is]; kernel_rfl
theorem ordR_ex {W : World} {b : Nat} (h : W.heap[b]? = some (.cells #[.int .i64 800, .int .i64 10, .int .i64 12, .int .i64 700, .int .i64 8, .int .i64 9, .int .i64 1200, .int .i64 4, .int .i64 4] 72 (0, 0))) : OrdR W b 0 3 exO := by
  refine ⟨lt_of_blk h, fun i hi => ?_⟩
  match i, hi with
  | 0, _ => exact ⟨Joins.cell_of_block h 0, Joins.cell_of_block h 1, Joins.cell_of_block h 2⟩
  | 1, _ => exact ⟨Joins.cell_of_block h 3, Joins.cell_of_block h 4, Joins.cell_of_block h 5⟩
  | 2, _ => exact ⟨Joins.cell_of_block h 6, Joins.cell_of_block h 7, Joins.cell_of_block h 8⟩
theorem exPat : patF exP exO [2, 1, 0] 3 = true := by decide
theorem exKn : knF exO [2, 1, 0] 100 3 = [100, 900, 1700, 2400] := by decide
set_option maxRecDepth 100000 in
set_option maxHeartbeats 8000000 in
theorem pubTrim_yes (w : World) :
  Calls Try.prog 16 #[] w (fun e w' => e = .returned (.bool true) ∧ Below w.heap.size w w') := by
 refine calls_fr Try.func16 Try.ntmps16 rfl rfl fun g hg => ?_
 clear hg
 have fB0 : Below w.heap.size w w := Below.refl _ _
 refine wp_seq_k fun K1 hK1 => ?_
 refine region_dk 1 [(0, 0)] [[]] (rel [is (.bool false)])
  ⟨is_k, trivial⟩
  ⟨fun f s W i j k l m a => opv rfl rfl (by simp [go_sem]) rfl, trivial⟩ ?_
 intro f1 s1 W1 hB1 g1 hg1
 have fB1 := hB1.f fB0
 have z1 := hB1.below.size
 refine hK1 _ _ ?_
 have k1_0 := kt hg1 0 (hB1.is 0)
 refine wp_seq_k fun K2 hK2 => ?_
 refine region_dk 3 [(7, 0), (8, 1), (1, 2)] [[], [0], [], [0, 1, 2]] (rel [is (.agg #[.int .i64 20, .int .i64 400]),
   is (.agg #[.int .i64 2500, .int .i64 20, .int .i64 400, .int .i64 4]),
   bx 2 #[.int .i64 0, .int .i64 0, .int .i64 0, .int .i64 0] 35])
  ⟨is_k, is_k, bx_k, trivial⟩
  ⟨fun f s W i j k l m a => opc rfl rfl (by simp [go_sem]) (pubSpan_any (20) (400) W),
  fun f s W i j k l m a => opv rfl rfl (by simp [go_sem, a.e 7 (j 0 rfl)]) rfl,
  fun f s W i j k l m a => opb rfl rfl (by simp [go_sem]), trivial⟩ ?_
 intro f2 s2 W2 hB2 g2 hg2
 have fB2 := hB2.f fB1
 have z2 := hB2.below.size
 obtain ⟨r2_2, br2_2⟩ := hB2.is 2
 have lr2_2 := hB2.lr 2 br2_2
 have k2_0 := kt hg2 0 k1_0
 have k2_8 := kt hg2 8 (hB2.is 1)
 have k2_1 := kt hg2 1 r2_2
 obtain ⟨W3, hW3⟩ : ∃ W', W' = W2.setRow (s2 2) #[.int .i64 2500, .int .i64 20, .int .i64 400, .int .i64 4] := ⟨_, rfl⟩
 refine tail_skip (o := _) rfl ⟨rfl, rfl⟩ (run_seg hW3 (fr_ev k2_1) (fr_ev k2_8) br2_2 rfl rfl rfl rfl) ?_
 obtain ⟨fB3, nb3, ot3, z3⟩ := seg_facts hW3 fB2 br2_2 (by omega)
 clear hW3
 refine wpOps_end ?_
 refine hK2 _ _ ?_
 refine wp_seq_k fun K3 hK3 => ?_
 refine region_dk 8 [(9, 0), (10, 1), (11, 2), (12, 3), (13, 4), (14, 5), (15, 6), (2, 7)] [[], [0], [0], [0, 2], [0, 2], [0, 2, 4], [0, 1, 2, 3, 4, 5], [0, 1, 2, 3, 4, 5, 6]] (rel [is (.agg #[.int .i64 10, .int .i64 12]),
   is (.agg #[.int .i64 800, .int .i64 10, .int .i64 12]),
   is (.agg #[.int .i64 8, .int .i64 9]),
   is (.agg #[.int .i64 700, .int .i64 8, .int .i64 9]),
   is (.agg #[.int .i64 4, .int .i64 4]),
   is (.agg #[.int .i64 1200, .int .i64 4, .int .i64 4]),
   row 6 3 #[.int .i64 800, .int .i64 10, .int .i64 12, .int .i64 700, .int .i64 8, .int .i64 9, .int .i64 1200, .int .i64 4, .int .i64 4] 72,
   isS fun s => .slice (some ⟨(s 6), 0, none⟩) (3) (3)])
  ⟨is_k, is_k, is_k, is_k, is_k, is_k, row_k, isS_k fun s s' e => by rw [e 6 (by simp)], trivial⟩
  ⟨fun f s W i j k l m a => opc rfl rfl (by simp [go_sem]) (pubSpan_any (10) (12) W),
  fun f s W i j k l m a => opv rfl rfl (by simp [go_sem, a.e 9 (j 0 rfl)]) rfl,
  fun f s W i j k l m a => opc rfl rfl (by simp [go_sem]) (pubSpan_any (8) (9) W),
  fun f s W i j k l m a => opv rfl rfl (by simp [go_sem, a.e 11 (j 2 rfl)]) rfl,
  fun f s W i j k l m a => opc rfl rfl (by simp [go_sem]) (pubSpan_any (4) (4) W),
  fun f s W i j k l m a => opv rfl rfl (by simp [go_sem, a.e 13 (j 4 rfl)]) rfl,
  fun f s W i j k l m a => opr rfl rfl (by simp [go_sem, a.e 10 (j 1 rfl), a.e 12 (j 3 rfl), a.e 14 (j 5 rfl)]),
  fun f s W i j k l m a => opv rfl rfl (by simp [go_sem, a.e 15 (j 6 rfl).1, upd]) rfl, trivial⟩ ?_
 intro f4 s4 W4 hB4 g4 hg4
 have fB4 := hB4.f fB3
 have z4 := hB4.below.size
 have b4_0 := hB4.b nb3
 obtain ⟨r4_6, br4_6⟩ := hB4.is 6
 have lr4_6 := hB4.lr 6 br4_6
 refine hK3 _ _ ?_
 have k4_0 := kt hg4 0 k2_0
 have k4_1 := kt hg4 1 k2_1
 have k4_2 := kt hg4 2 (hB4.is 7)
 refine wp_seq_k fun K4 hK4 => ?_
 refine region_dk 8 [(17, 0), (18, 1), (19, 2), (16, 3), (20, 4), (21, 5), (3, 6), (4, 7)] [[], [], [0, 1], [0, 1, 2], [0, 1, 2, 3], [0, 1, 2, 3], [0, 1, 2, 3, 4], [0, 1, 2, 3, 4, 5, 6]] (rel [is (.agg #[.int .i64 2500, .int .i64 20, .int .i64 400, .int .i64 4]),
   is (.slice (some ⟨(s4 6), 0, none⟩) (3) (3)),
   ab fun v W => ∃ x0, v = .tuple #[x0, .int .i64 0] ∧ IsPlan (3) (plX (patL exP exO 3 3 []) exQ.best) x0 W,
   ab fun v W => ∃ x0, v = .tuple #[x0, .int .i64 0] ∧ IsPlan (3) (plX (patL exP exO 3 3 []) exQ.best) x0 W,
   ab fun v W => IsPlan (3) (plX (patL exP exO 3 3 []) exQ.best) v W,
   is (.int .i64 0),
   ab fun v W => IsPlan (3) (plX (patL exP exO 3 3 []) exQ.best) v W,
   is (.int .i64 0)])
  ⟨is_k, is_k, ab_k fun v W W' hb ⟨x0, e, h0⟩ => ⟨x0, e, (h0.below hb)⟩, ab_k fun v W W' hb ⟨x0, e, h0⟩ => ⟨x0, e, (h0.below hb)⟩, ab_k fun v W W' hb h => (h.below hb), is_k, ab_k fun v W W' hb h => (h.below hb), is_k, trivial⟩
  ⟨fun f s W i j k l m a => opl rfl rfl rfl (a.v 1 k4_1) (blk_below b4_0 i) Try.underlying35 rfl (by kernel_rfl) rfl,
  fun f s W i j k l m a => opv rfl rfl (by simp [go_sem, a.e 2 k4_2]) rfl,
  fun f s W i j k l m a => opDo_call rfl rfl (by simp [go_sem, a.e 17 (j 0 rfl), a.e 18 (j 1 rfl)]) (tr_Plan ⟨2500, 20, 400, 4⟩ exO (s4 6) 0 3 exQ W (ordR_ex (blk_below br4_6 i)) exP_in exO_in exQ_is) ((fun e W' h => by obtain ⟨v, e1, h1, h2⟩ := h; exact ⟨_, e1, h2, ⟨v, rfl, h1⟩⟩)),
  fun f s W i j k l m a => opv (v := (f 2)) rfl rfl (by simp [go_sem, (a.at' 19 rfl : m.tmps[19]?.getD undef = f 2)] <;> rfl) (j 2 rfl),
  fun f s W i j k l m a => by obtain ⟨x3_0, d3, p3_0⟩ := (j 3 rfl); exact opv (v := x3_0) rfl rfl (by simp [go_sem, a.e 16 d3]) p3_0,
  fun f s W i j k l m a => by obtain ⟨x3_0, d3, p3_0⟩ := (j 3 rfl); exact opv rfl rfl (by simp [go_sem, a.e 16 d3]) rfl,
  fun f s W i j k l m a => opv (v := (f 4)) rfl rfl (by simp [go_sem, (a.at' 20 rfl : m.tmps[20]?.getD undef = f 4)] <;> rfl) (j 4 rfl),
  fun f s W i j k l m a => opv rfl rfl (by simp [go_sem, a.e 21 (j 5 rfl)]) rfl, trivial⟩ ?_
 intro f5 s5 W5 hB5 g5 hg5
 have fB5 := hB5.f fB4
 have z5 := hB5.below.size
 have b5_0 := hB5.b b4_0
 have b5_1 := hB5.b br4_6
 obtain ⟨a53', c54', b55', o56', ad57', cp58', r5_6, q61', q60', q59'⟩ := hB5.is 6
 refine hK4 _ _ ?_
 have k5_0 := kt hg5 0 k4_0
 have k5_1 := kt hg5 1 k4_1
 have k5_2 := kt hg5 2 k4_2
 have k5_3 := kt hg5 3 r5_6
 have k5_4 := kt hg5 4 (hB5.is 7)
 refine wp_seq_k fun K5 hK5 => ?_
 refine region_dk 9 [(23, 0), (24, 1), (25, 2), (26, 3), (22, 4), (27, 5), (28, 6), (5, 7), (6, 8)] [[], [], [], [0, 1, 2], [0, 1, 2, 3], [0, 1, 2, 3, 4], [0, 1, 2, 3, 4], [0, 1, 2, 3, 4, 5], [0, 1, 2, 3, 4, 5, 6, 7]] (rel [is (.agg #[.int .i64 2500, .int .i64 20, .int .i64 400, .int .i64 4]),
   is (.slice (some ⟨(s4 6), 0, none⟩) (3) (3)),
   row 2 3 #[.int .i64 2, .int .i64 1, .int .i64 0] 3,
   ab fun v W => ∃ x0, v = .tuple #[x0, .int .i64 0] ∧ OwI 0 [100, 900, 1700, 2400] 4 x0 W,
   ab fun v W => ∃ x0, v = .tuple #[x0, .int .i64 0] ∧ OwI 0 [100, 900, 1700, 2400] 4 x0 W,
   ab fun v W => OwI 0 [100, 900, 1700, 2400] 4 v W,
   is (.int .i64 0),
   ab fun v W => OwI 0 [100, 900, 1700, 2400] 4 v W,
   is (.int .i64 0)])
  ⟨is_k, is_k, row_k, ab_k fun v W W' hb ⟨x0, e, h0⟩ => ⟨x0, e, (h0.below hb)⟩, ab_k fun v W W' hb ⟨x0, e, h0⟩ => ⟨x0, e, (h0.below hb)⟩, ab_k fun v W W' hb h => (h.below hb), is_k, ab_k fun v W W' hb h => (h.below hb), is_k, trivial⟩
  ⟨fun f s W i j k l m a => opl rfl rfl rfl (a.v 1 k5_1) (blk_below b5_0 i) Try.underlying35 rfl (by kernel_rfl) rfl,
  fun f s W i j k l m a => opv rfl rfl (by simp [go_sem, a.e 2 k5_2]) rfl,
  fun f s W i j k l m a => opr rfl rfl (by simp [go_sem]),
  fun f s W i j k l m a => opDo_call rfl rfl (by simp [go_sem, a.e 23 (j 0 rfl), a.e 24 (j 1 rfl), a.e 25 (j 2 rfl).1]) (tr_Knives ⟨2500, 20, 400, 4⟩ exO (s4 6) 0 3 3 (some ⟨(s 2), 0, none⟩) 3 3 [2, 1, 0] 100 W (ordR_ex (blk_below b5_1 i)) exP_in exO_in (by decide) (ii_block (xs := [2, 1, 0]) (j 2 rfl).2 rfl rfl) (by decide) rfl exPat (by decide) (by decide)) ((fun e W' h => by obtain ⟨v, e1, ⟨g_, n_, c_, e2, e3, h1⟩, h2⟩ := h; rw [exKn] at e3 h1; exact ⟨_, e1, h2, ⟨v, rfl, ⟨g_, c_, by rw [e2, e3]; rfl, h1⟩⟩⟩)),
  fun f s W i j k l m a => opv (v := (f 3)) rfl rfl (by simp [go_sem, (a.at' 26 rfl : m.tmps[26]?.getD undef = f 3)] <;> rfl) (j 3 rfl),
  fun f s W i j k l m a => by obtain ⟨x4_0, d4, p4_0⟩ := (j 4 rfl); exact opv (v := x4_0) rfl rfl (by simp [go_sem, a.e 22 d4]) p4_0,
  fun f s W i j k l m a => by obtain ⟨x4_0, d4, p4_0⟩ := (j 4 rfl); exact opv rfl rfl (by simp [go_sem, a.e 22 d4]) rfl,
  fun f s W i j k l m a => opv (v := (f 5)) rfl rfl (by simp [go_sem, (a.at' 27 rfl : m.tmps[27]?.getD undef = f 5)] <;> rfl) (j 5 rfl),
  fun f s W i j k l m a => opv rfl rfl (by simp [go_sem, a.e 28 (j 6 rfl)]) rfl, trivial⟩ ?_
 intro f6 s6 W6 hB6 g6 hg6
 have fB6 := hB6.f fB5
 have z6 := hB6.below.size
 have b6_0 := hB6.b b5_0
 have b6_1 := hB6.b b5_1
 have q65' := (q59'.below hB6.below)
 have q66' := q60'
 have q67' := q61'
 obtain ⟨r6_2, br6_2⟩ := hB6.is 2
 have lr6_2 := hB6.lr 2 br6_2
 obtain ⟨g68', c69', r6_7, q70'⟩ := hB6.is 7
 refine hK5 _ _ ?_
 have k6_0 := kt hg6 0 k5_0
 have k6_3 := kt hg6 3 k5_3
 have k6_4 := kt hg6 4 k5_4
 have k6_5 := kt hg6 5 r6_7
 have k6_6 := kt hg6 6 (hB6.is 8)
 refine wp_seq_k fun K6 hK6 => ?_
 refine region_dk 31 [(29, 0), (30, 1), (31, 2), (32, 3), (33, 4), (34, 5), (35, 6), (36, 7), (37, 8), (38, 9), (39, 10), (40, 11), (41, 12), (42, 13), (43, 14), (44, 15), (45, 16), (46, 17), (47, 18), (48, 19), (49, 20), (50, 21), (51, 22), (52, 23), (53, 24), (54, 25), (55, 26), (56, 27), (57, 28), (58, 29), (0, 30)] [[], [0], [0, 1], [0, 1, 2], [0, 1, 2, 3], [0, 1, 2, 3, 4], [0, 1, 2, 3, 4, 5], [0, 1, 2, 3, 4, 5, 6], [0, 1, 2, 3, 4, 5, 6, 7], [0, 1, 2, 3, 4, 5, 6, 7, 8], [0, 1, 2, 3, 4, 5, 6, 7, 8, 9], [0, 1, 2, 3, 4, 5, 6, 7, 8, 9, 10], [0, 1, 2, 3, 4, 5, 6, 7, 8, 9, 10, 11], [0, 1, 2, 3, 4, 5, 6, 7, 8, 9, 10, 11, 12], [0, 1, 2, 3, 4, 5, 6, 7, 8, 9, 10, 11, 12, 13], [0, 1, 2, 3, 4, 5, 6, 7, 8, 9, 10, 11, 12, 13, 14], [0, 1, 2, 3, 4, 5, 6, 7, 8, 9, 10, 11, 12, 13, 14, 15], [0, 1, 2, 3, 4, 5, 6, 7, 8, 9, 10, 11, 12, 13, 14, 15, 16], [0, 1, 2, 3, 4, 5, 6, 7, 8, 9, 10, 11, 12, 13, 14, 15, 16, 17], [0, 1, 2, 3, 4, 5, 6, 7, 8, 9, 10, 11, 12, 13, 14, 15, 16, 17, 18], [0, 1, 2, 3, 4, 5, 6, 7, 8, 9, 10, 11, 12, 13, 14, 15, 16, 17, 18, 19], [0, 1, 2, 3, 4, 5, 6, 7, 8, 9, 10, 11, 12, 13, 14, 15, 16, 17, 18, 19, 20], [0, 1, 2, 3, 4, 5, 6, 7, 8, 9, 10, 11, 12, 13, 14, 15, 16, 17, 18, 19, 20, 21], [0, 1, 2, 3, 4, 5, 6, 7, 8, 9, 10, 11, 12, 13, 14, 15, 16, 17, 18, 19, 20, 21, 22], [0, 1, 2, 3, 4, 5, 6, 7, 8, 9, 10, 11, 12, 13, 14, 15, 16, 17, 18, 19, 20, 21, 22, 23], [0, 1, 2, 3, 4, 5, 6, 7, 8, 9, 10, 11, 12, 13, 14, 15, 16, 17, 18, 19, 20, 21, 22, 23, 24], [0, 1, 2, 3, 4, 5, 6, 7, 8, 9, 10, 11, 12, 13, 14, 15, 16, 17, 18, 19, 20, 21, 22, 23, 24, 25], [0, 1, 2, 3, 4, 5, 6, 7, 8, 9, 10, 11, 12, 13, 14, 15, 16, 17, 18, 19, 20, 21, 22, 23, 24, 25], [0, 1, 2, 3, 4, 5, 6, 7, 8, 9, 10, 11, 12, 13, 14, 15, 16, 17, 18, 19, 20, 21, 22, 23, 24, 25, 26, 27], [0, 1, 2, 3, 4, 5, 6, 7, 8, 9, 10, 11, 12, 13, 14, 15, 16, 17, 18, 19, 20, 21, 22, 23, 24, 25, 26, 27, 28], [0, 1, 2, 3, 4, 5, 6, 7, 8, 9, 10, 11, 12, 13, 14, 15, 16, 17, 18, 19, 20, 21, 22, 23, 24, 25, 26, 27, 28, 29]] (rel [is (.int .i64 0),
   is (.bool true),
   is (.bool true),
   is (.int .i64 0),
   is (.bool true),
   is (.bool true),
   is (.bool true),
   is (.slice (a53') (3) (c54')),
   is (.int .i64 3),
   is (.bool true),
   is (.bool true),
   is (.bool true),
   is (.slice (a53') (3) (c54')),
   is (.pointer (some ⟨b55', o56' + 2, none⟩)),
   is (.pointer (some ⟨b55', o56' + 2 + 1, none⟩)),
   is (.int .i64 1),
   is (.bool true),
   is (.bool true),
   is (.bool true),
   is (.slice (a53') (3) (c54')),
   is (.pointer (some ⟨b55', o56' + 4, none⟩)),
   is (.pointer (some ⟨b55', o56' + 4 + 1, none⟩)),
   is (.int .i64 5),
   is (.bool true),
   is (.bool true),
   is (.bool true),
   is (.slice (some ⟨g68', 0, none⟩) (4) (c69')),
   row 27 4 #[.int .i64 100, .int .i64 900, .int .i64 1700, .int .i64 2400] 3,
   is (.bool true),
   is (.bool true),
   is (.bool true)])
  ⟨is_k, is_k, is_k, is_k, is_k, is_k, is_k, is_k, is_k, is_k, is_k, is_k, is_k, is_k, is_k, is_k, is_k, is_k, is_k, is_k, is_k, is_k, is_k, is_k, is_k, is_k, is_k, row_k, is_k, is_k, is_k, trivial⟩
  ⟨fun f s W i j k l m a => opv rfl rfl (by simp [go_sem, a.e 4 k6_4]) rfl,
  fun f s W i j k l m a => opv rfl rfl (by simp [go_sem, a.e 29 (j 0 rfl)]) rfl,
  fun f s W i j k l m a => opv rfl rfl (by simp [go_sem, a.e 30 (j 1 rfl)]) rfl,
  fun f s W i j k l m a => osure rfl rfl (a.says (d := 31) rfl rfl (j 2 rfl)) (gv (by simp [go_sem, a.e 6 k6_6]) rfl),
  fun f s W i j k l m a => osure rfl rfl (a.says (d := 31) rfl rfl (j 2 rfl)) (gv (by simp [go_sem, a.e 32 (j 3 rfl)]) rfl),
  fun f s W i j k l m a => opk (c := true) rfl rfl (fun h => absurd h (by decide)) (fun _ => by simp [go_sem, a.e 31 (j 2 rfl), a.e 33 (j 4 rfl)]),
  fun f s W i j k l m a => opv rfl rfl (by simp [go_sem, a.e 34 (j 5 rfl)]) rfl,
  fun f s W i j k l m a => osure rfl rfl (a.says (d := 35) rfl rfl (j 6 rfl)) (gv (by simp [go_sem, a.e 3 k6_3]) rfl),
  fun f s W i j k l m a => osure rfl rfl (a.says (d := 35) rfl rfl (j 6 rfl)) (gv (by simp [go_sem, a.e 36 (j 7 rfl)]) rfl),
  fun f s W i j k l m a => osure rfl rfl (a.says (d := 35) rfl rfl (j 6 rfl)) (gv (by simp [go_sem, a.e 37 (j 8 rfl)]) rfl),
  fun f s W i j k l m a => opk (c := true) rfl rfl (fun h => absurd h (by decide)) (fun _ => by simp [go_sem, a.e 35 (j 6 rfl), a.e 38 (j 9 rfl)]),
  fun f s W i j k l m a => opv rfl rfl (by simp [go_sem, a.e 39 (j 10 rfl)]) rfl,
  fun f s W i j k l m a => osure rfl rfl (a.says (d := 40) rfl rfl (j 11 rfl)) (gv (by simp [go_sem, a.e 3 k6_3]) rfl),
  fun f s W i j k l m a => osure rfl rfl (a.says (d := 40) rfl rfl (j 11 rfl)) (by have hab := q66' (by decide); exact gv (by simp [go_sem, a.e 41 (j 12 rfl), hab]) rfl),
  fun f s W i j k l m a => osure rfl rfl (a.says (d := 40) rfl rfl (j 11 rfl)) (gv (by simp [go_sem, a.e 42 (j 13 rfl)]) rfl),
  fun f s W i j k l m a => osure rfl rfl (a.says (d := 40) rfl rfl (j 11 rfl)) (by have cu_ : W.cell? ⟨b55', o56' + 3, none⟩ = some (.int .i64 1) := (((q65'.below i)).2 1 (by decide)).2.1; exact gv (by simp [go_sem, a.e 43 (j 14 rfl), cu_]) rfl),
  fun f s W i j k l m a => osure rfl rfl (a.says (d := 40) rfl rfl (j 11 rfl)) (gv (by simp [go_sem, a.e 44 (j 15 rfl)]) rfl),
  fun f s W i j k l m a => opk (c := true) rfl rfl (fun h => absurd h (by decide)) (fun _ => by simp [go_sem, a.e 40 (j 11 rfl), a.e 45 (j 16 rfl)]),
  fun f s W i j k l m a => opv rfl rfl (by simp [go_sem, a.e 46 (j 17 rfl)]) rfl,
  fun f s W i j k l m a => osure rfl rfl (a.says (d := 47) rfl rfl (j 18 rfl)) (gv (by simp [go_sem, a.e 3 k6_3]) rfl),
  fun f s W i j k l m a => osure rfl rfl (a.says (d := 47) rfl rfl (j 18 rfl)) (by have hab := q66' (by decide); exact gv (by simp [go_sem, a.e 48 (j 19 rfl), hab]) rfl),
  fun f s W i j k l m a => osure rfl rfl (a.says (d := 47) rfl rfl (j 18 rfl)) (gv (by simp [go_sem, a.e 49 (j 20 rfl)]) rfl),
  fun f s W i j k l m a => osure rfl rfl (a.says (d := 47) rfl rfl (j 18 rfl)) (by have cu_ : W.cell? ⟨b55', o56' + 5, none⟩ = some (.int .i64 5) := (((q65'.below i)).2 2 (by decide)).2.1; exact gv (by simp [go_sem, a.e 50 (j 21 rfl), cu_]) rfl),
  fun f s W i j k l m a => osure rfl rfl (a.says (d := 47) rfl rfl (j 18 rfl)) (gv (by simp [go_sem, a.e 51 (j 22 rfl)]) rfl),
  fun f s W i j k l m a => opk (c := true) rfl rfl (fun h => absurd h (by decide)) (fun _ => by simp [go_sem, a.e 47 (j 18 rfl), a.e 52 (j 23 rfl)]),
  fun f s W i j k l m a => opv rfl rfl (by simp [go_sem, a.e 53 (j 24 rfl)]) rfl,
  fun f s W i j k l m a => osure rfl rfl (a.says (d := 54) rfl rfl (j 25 rfl)) (gv (by simp [go_sem, a.e 5 k6_5]) rfl),
  fun f s W i j k l m a => osure rfl rfl (a.says (d := 54) rfl rfl (j 25 rfl)) (gr (by simp [go_sem])),
  fun f s W i j k l m a => osure rfl rfl (a.says (d := 54) rfl rfl (j 25 rfl)) (gc (by simp [go_sem, a.e 55 (j 26 rfl), a.e 56 (j 27 rfl).1]) (pubSame_yes (some ⟨g68', 0, none⟩) (some ⟨(s 27), 0, none⟩) c69' 4 [100, 900, 1700, 2400] W ((q70'.below i)).ii (ii_block (xs := [100, 900, 1700, 2400]) (j 27 rfl).2 rfl rfl) (by decide))),
  fun f s W i j k l m a => opk (c := true) rfl rfl (fun h => absurd h (by decide)) (fun _ => by simp [go_sem, a.e 54 (j 25 rfl), a.e 57 (j 28 rfl)]),
  fun f s W i j k l m a => opv rfl rfl (by simp [go_sem, a.e 58 (j 29 rfl)]) rfl, trivial⟩ ?_
 intro f7 s7 W7 hB7 g7 hg7
 have fB7 := hB7.f fB6
 have z7 := hB7.below.size
 have b7_0 := hB7.b b6_0
 have b7_1 := hB7.b b6_1
 have b7_2 := hB7.b br6_2
 have q71' := (q65'.below hB7.below)
 have q72' := q66'
 have q73' := q67'
 have q74' := (q70'.below hB7.below)
 obtain ⟨r7_27, br7_27⟩ := hB7.is 27
 have lr7_27 := hB7.lr 27 br7_27
 refine hK6 _ _ ?_
 have k7_0 := kt hg7 0 (hB7.is 30)
 refine wp_ret ?_
 refine leave_one (N := 59) (v := .bool true) (.inr rfl) Try.results16 rfl k7_0 ?_
 exact ⟨rfl, fB7⟩
end Go.Proofs.Ytnhipdbdolabkaa
