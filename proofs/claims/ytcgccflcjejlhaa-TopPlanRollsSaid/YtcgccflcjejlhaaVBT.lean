/- Part of the proof: what the claim leans on. -/
import Derived.Test.YtcgccflcjejlhaaVBS
set_option maxHeartbeats 16000000
set_option maxRecDepth 100000
set_option linter.unusedSimpArgs false
set_option linter.unusedVariables false
namespace Go.Proofs.Ytcgccflcjejlhaa
open Go.RowKit
theorem rolls_c (tb : Int) (ap ta : Option Addr) (np cp nb cb : Nat) (pv : Nat → Nat → Int) (bs : Nat → Int) (lg : Nat → Int) (m : Nat) (ht : 0 ≤ tb ∧ tb ≤ 255) (hp : ∀ i j, 0 ≤ pv i j ∧ pv i j ≤ 255) (gm : m ≤ 3) (hq : ∀ i, i < m → RdIn (lg i)) (w0 w : World) (hbase_ : Below w0.heap.size w0 w) (hR : RowsB w ap np 2 pv) (hT : ByV w ta nb bs) (b3 : Nat) (qa : Option Addr) (cq : Nat) (h3 : w.heap[b3]? = some (.cells #[.int .u8 tb, .slice ap np cp] 57 (0, 0))) (hQ : RdL w qa m lg) (g : Nat → Value) (k_2 : g 2 = .slice ta nb cb) (k_3 : g 3 = .pointer (some ⟨b3, 0, none⟩)) (k_16 : g 16 = .slice qa m cq) (k_17 : g 17 = .int .i64 ((bgF lg m))) :
  (tailC 9 (bodyC Try.f4)).wp Try.prog (bodyPost Try.prog Try.f4 (fun e w' => e = .returned (.bool true) ∧ Below w0.heap.size w0 w')) (fr 426 g) w := by
 obtain ⟨tl, htl_⟩ : ∃ t, tb % 50 = t := ⟨_, rfl⟩
 obtain ⟨n5, hn5⟩ : ∃ n, n = min np 5 := ⟨_, rfl⟩
 have htl : 0 ≤ tl ∧ tl ≤ 49 := by omega
 have gn5 : n5 ≤ 5 := by omega
 have ho : ∀ i, i < n5 → RoIn tl (stS tb pv i) := fun i _ => htl_ ▸ stS_in ht hp i
 have hpos_ : 0 < n5 → 1 ≤ (stS tb pv 0).1 := fun h0 => by have := (ho 0 h0).h; omega
 have hUp_ : RoUp 4 3 tl := ⟨by omega, by omega, by omega⟩
 have fB0 : Below w.heap.size w w := Below.refl _ _
 have lt_b3 := ltb h3
 refine wp_seq_k fun K1 hK1 => ?_
 refine rz 4 [(232, 0), (233, 1), (234, 2), (21, 3)] [[], [], [0, 1], [], [0, 1, 2, 3]] (rel [is (.agg #[.int .u8 tb, .slice ap np cp]), is (.agg #[.int .i64 4, .int .i64 3]), ab fun v W => IsStd 4 3 tl n5 (stS tb pv) v W, bx 3 #[.int .i64 0, .int .i64 0, .int .i64 0, .slice none 0 0] 80])
  ⟨is_k, is_k, ab_k fun v W W' hb h => (IsStd.below h hb), bx_k, trivial⟩
  ⟨fun f s W k l p q r a => opv rfl rfl (by simp [go_sem, a.e 3 k_3, cl (bwb h3 k) 0, cl (bwb h3 k) 1]) rfl,
  fun f s W k l p q r a => opv rfl rfl (by simp [go_sem]) rfl,
  fun f s W k l p q r a => by have u := bwt fB0 k; exact opd rfl rfl (by simp [go_sem, a.e 232 (l 0 rfl), a.e 233 (l 1 rfl)]) (arm_stand 4 3 tb ap np cp n5 pv W (hR.below u) ht hp hn5) ((fun e W' h => by obtain ⟨v, e1, h1, h2⟩ := h; rw [htl_] at h1; exact ⟨_, e1, h2, h1⟩)),
  fun f s W k l p q r a => opb rfl rfl (by simp [go_sem]), trivial⟩ ?_
 intro f1 s1 W1 hB1 g1 hg1 z1
 have fB1 := hB1.f fB0
 obtain ⟨a93', c94', r1_2, q95'⟩ := hB1.is 2
 obtain ⟨r1_3, br1_3⟩ := hB1.is 3
 have lr1_3 := hB1.lr 3 br1_3
 have k1_16 := kt hg1 16 k_16
 have k1_234 := kt hg1 234 r1_2
 have k1_21 := kt hg1 21 r1_3
 obtain ⟨W2, hW2⟩ : ∃ W', W' = W1.setRow (s1 3) #[.int .i64 4, .int .i64 3, .int .i64 tl, .slice a93' n5 c94'] := ⟨_, rfl⟩
 refine tsk (o := _) rfl ⟨rfl, rfl⟩ (run_seg hW2 (fr_ev k1_21) (fr_ev k1_234) br1_3 rfl rfl rfl rfl) ?_
 obtain ⟨fB2, nb2, ot2, z2⟩ := sgf hW2 fB1 br1_3 (by omega)
 clear hW2
 have q96' := (SpL.otherZ q95' ot2 hpos_ br1_3 z2)
 refine wpe ?_
 refine hK1 _ _ ?_
 refine wp_seq_k fun K2 hK2 => ?_
 refine rz 5 [(236, 0), (237, 1), (238, 2), (239, 3), (240, 4), (235, 5), (241, 6), (242, 7), (22, 8), (23, 9)] [[], [0], [], [2], [0, 1, 2, 3], [0, 1, 2, 3, 4], [0, 1, 2, 3, 4, 5], [0, 1, 2, 3, 4, 5], [0, 1, 2, 3, 4, 5, 6], [0, 1, 2, 3, 4, 5, 6, 7, 8]] (rel [is (.agg #[.int .i64 4, .int .i64 3, .int .i64 tl, .slice a93' n5 c94']), ab fun v W => IsStd 4 3 tl n5 (stS tb pv) v W, is (.slice qa m cq), ab fun v W => IsRd m (lg) v W, ab fun v W => IsPl w.heap.size 4 3 tl (stS tb pv) n5 lg m v W])
  ⟨is_k, ab_k fun v W W' hb h => (IsStd.below h hb), is_k, ab_k fun v W W' hb h => (IsRd.below h hb), ab_k fun v W W' hb h => (IsPl.below h hb), trivial⟩
  ⟨fun f s W k l p q r a => opv rfl rfl (by simp [go_sem, a.e 21 k1_21, cl (bwb nb2 k) 0, cl (bwb nb2 k) 1, cl (bwb nb2 k) 2, cl (bwb nb2 k) 3]) rfl,
  fun f s W k l p q r a => opd rfl rfl (by simp [go_sem, a.e 236 (l 0 rfl)]) (arm_rolls 4 3 tl (stS tb pv) (a93') n5 (c94') W ((SpL.below q96' k)) (by omega)) ((fun e W' h => by obtain ⟨v, e1, h1, h2⟩ := h; exact ⟨_, e1, h2, h1⟩)),
  fun f s W k l p q r a => opm (a.v 16 k1_16),
  fun f s W k l p q r a => by have u := bwt fB2 k; exact opd rfl rfl (by simp [go_sem, a.e 238 (l 2 rfl)]) (arm_runs lg qa m cq W (hQ.below u) (by omega)) ((fun e W' h => by obtain ⟨v, e1, h1, h2⟩ := h; exact ⟨_, e1, h2, h1⟩)),
  fun f s W k l p q r a => by obtain ⟨a97', c98', d1, q99'⟩ := (l 1 rfl); obtain ⟨a100', c101', d3, q102'⟩ := (l 3 rfl); have u := bwt fB2 k; exact opd (args := #[.agg #[.int .i64 4, .int .i64 3, .int .i64 tl, .slice a97' n5 c98'], .slice a100' m c101']) rfl rfl (by simp [go_sem, a.e 237 d1, a.e 239 d3]) (ro_Plan 4 3 tl (stS tb pv) (a97') n5 (c98') lg (a100') m (c101') W hUp_ q99' ho (by omega) q102' hq (by omega)) ((fun e W' h => by obtain ⟨h1, h2⟩ := h; rcases h1 with h1 | ⟨xs, g, c, e1, h3, h4, h5, h6⟩; exact ⟨_, h1, h2, ⟨_, rfl, .inl rfl⟩⟩; exact ⟨_, e1, h2, ⟨_, rfl, PlD.low (.inr ⟨xs, g, c, rfl, h3, h4, h5, h6⟩) u.size⟩⟩)), trivial⟩ ?_
 intro f3 s3 W3 hB3 g3 hg3 z3
 have fB3 := hB3.f fB2
 have q103' := (SpL.below q96' hB3.below)
 obtain ⟨pv104', r3_4, q105'⟩ := hB3.is 4
 have k3_240 := kt hg3 240 r3_4
 rcases q105' with ep_ | ⟨xs, gx_, cx_, ep_, hX_, hgx_, hlx_, hfl_⟩
 ·
  subst ep_
  refine tail_value (o := _) rfl rfl rfl (v := .tuple #[.slice none 0 0, .int .i64 9]) (by simp [go_sem, frv 426 k3_240]) ?_
  generalize hg4 : upd g3 235 (.tuple #[.slice none 0 0, .int .i64 9]) = g4
  have k4_235 := kt hg4 235 (upd_same _ _ _)
  refine tail_value (o := _) rfl rfl rfl (v := .slice none 0 0) (by simp [go_sem, frv 426 k4_235]) ?_
  generalize hg5 : upd g4 241 (.slice none 0 0) = g5
  have k5_235 := ku hg5 235 k4_235
  refine tail_value (o := _) rfl rfl rfl (v := .int .i64 9) (by simp [go_sem, frv 426 k5_235]) ?_
  generalize hg6 : upd g5 242 (.int .i64 9) = g6
  have k6_241 := ku hg6 241 (kt hg5 241 (upd_same _ _ _))
  refine tail_value (o := _) rfl rfl rfl (v := .slice none 0 0) (by simp [go_sem, frv 426 k6_241]) ?_
  generalize hg7 : upd g6 22 (.slice none 0 0) = g7
  have k7_242 := ku hg7 242 (kt hg6 242 (upd_same _ _ _))
  refine tail_value (o := _) rfl rfl rfl (v := .int .i64 9) (by simp [go_sem, frv 426 k7_242]) ?_
  generalize hg8 : upd g7 23 (.int .i64 9) = g8
  have k8_23 := kt hg8 23 (upd_same _ _ _)
  refine wpe ?_
  refine hK2 _ _ ?_
  refine wp_seq_k fun K3 hK3 => ?_
  refine rw_ 2 [(243, 0), (244, 1)] [[], [0]] (rel [iI 9, iB true])
   ⟨fun f s W k l p q r a => opm (a.v 23 k8_23),
  fun f s W k l p q r a => opv rfl rfl (by simp [go_sem, a.e 243 (l 0 rfl)]) rfl, trivial⟩ ?_
  intro f9 s9 W9 hB9 g9 hg9 z9
  have q106' := (SpL.below q103' hB9.below)
  have k9_22 := kt hg9 22 (ku hg8 22 (kt hg7 22 (upd_same _ _ _)))
  have k9_23 := kt hg9 23 k8_23
  have k9_244 := kt hg9 244 (hB9.is 1)
  refine wp_cond_true ((fr_eval rfl).trans k9_244) ?_
  refine rw_ 14 [(245, 0), (246, 1), (247, 2), (248, 3), (249, 4), (250, 5), (251, 6), (252, 7), (253, 8), (254, 9), (255, 10), (256, 11), (257, 12), (6, 13)] [[], [0], [1], [2], [2, 3], [2, 4], [2, 5], [6], [7], [7, 8], [9], [10], [10, 11], [12]] (rel [iI 9, iB true, iB true, is (.slice none 0 0), iI 0, iB true, iB true, iB true, iB true, iB true, iB true, iB true, iB true, iB true])
   ⟨fun f s W k l p q r a => opm (a.v 23 k9_23),
  fun f s W k l p q r a => opv rfl rfl (by simp [go_sem, a.e 245 (l 0 rfl)]) rfl,
  fun f s W k l p q r a => opm (a.v 246 (l 1 rfl)),
  fun f s W k l p q r a => osure rfl rfl (a.says (d := 247) rfl rfl (l 2 rfl)) (gv (by simp [go_sem, a.e 22 k9_22]) rfl),
  fun f s W k l p q r a => osure rfl rfl (a.says (d := 247) rfl rfl (l 2 rfl)) (gv (by simp [go_sem, a.e 248 (l 3 rfl)]) rfl),
  fun f s W k l p q r a => osure rfl rfl (a.says (d := 247) rfl rfl (l 2 rfl)) (gv (by simp [go_sem, a.e 249 (l 4 rfl)]) rfl),
  fun f s W k l p q r a => opk (c := true) rfl rfl (fun h => absurd h (by decide)) (fun _ => by simp [go_sem, a.e 247 (l 2 rfl), a.e 250 (l 5 rfl)]),
  fun f s W k l p q r a => opm (a.v 251 (l 6 rfl)),
  fun f s W k l p q r a => osure rfl rfl (a.says (d := 252) rfl rfl (l 7 rfl)) (gc (by simp [go_sem]) (armTrim_yes W)),
  fun f s W k l p q r a => opk (c := true) rfl rfl (fun h => absurd h (by decide)) (fun _ => by simp [go_sem, a.e 252 (l 7 rfl), a.e 253 (l 8 rfl)]),
  fun f s W k l p q r a => opm (a.v 254 (l 9 rfl)),
  fun f s W k l p q r a => osure rfl rfl (a.says (d := 255) rfl rfl (l 10 rfl)) (gc (by simp [go_sem]) (armRoll_yes W)),
  fun f s W k l p q r a => opk (c := true) rfl rfl (fun h => absurd h (by decide)) (fun _ => by simp [go_sem, a.e 255 (l 10 rfl), a.e 256 (l 11 rfl)]),
  fun f s W k l p q r a => opm (a.v 257 (l 12 rfl)), trivial⟩ ?_
  intro f10 s10 W10 hB10 g10 hg10 z10
  have fB10 := hB10.f (hB9.f fB3)
  have q107' := (SpL.below q106' hB10.below)
  have k10_6 := kt hg10 6 (hB10.is 13)
  refine wp_ret ?_
  refine then_ret ?_
  refine leave_one (N := 426) (.inr rfl) Try.results4 rfl k10_6 ?_
  exact ⟨rfl, bwt hbase_ fB10⟩
 ·
  subst ep_
  refine tail_value (o := _) rfl rfl rfl (v := .tuple #[.slice (some ⟨gx_, 0, none⟩) (xs.length) cx_, .int .i64 0]) (by simp [go_sem, frv 426 k3_240]) ?_
  generalize hg11 : upd g3 235 (.tuple #[.slice (some ⟨gx_, 0, none⟩) (xs.length) cx_, .int .i64 0]) = g11
  have k11_235 := kt hg11 235 (upd_same _ _ _)
  refine tail_value (o := _) rfl rfl rfl (v := .slice (some ⟨gx_, 0, none⟩) (xs.length) cx_) (by simp [go_sem, frv 426 k11_235]) ?_
  generalize hg12 : upd g11 241 (.slice (some ⟨gx_, 0, none⟩) (xs.length) cx_) = g12
  have k12_235 := ku hg12 235 k11_235
  refine tail_value (o := _) rfl rfl rfl (v := .int .i64 0) (by simp [go_sem, frv 426 k12_235]) ?_
  generalize hg13 : upd g12 242 (.int .i64 0) = g13
  have k13_241 := ku hg13 241 (kt hg12 241 (upd_same _ _ _))
  refine tail_value (o := _) rfl rfl rfl (v := .slice (some ⟨gx_, 0, none⟩) (xs.length) cx_) (by simp [go_sem, frv 426 k13_241]) ?_
  generalize hg14 : upd g13 22 (.slice (some ⟨gx_, 0, none⟩) (xs.length) cx_) = g14
  have k14_242 := ku hg14 242 (kt hg13 242 (upd_same _ _ _))
  refine tail_value (o := _) rfl rfl rfl (v := .int .i64 0) (by simp [go_sem, frv 426 k14_242]) ?_
  generalize hg15 : upd g14 23 (.int .i64 0) = g15
  have k15_23 := kt hg15 23 (upd_same _ _ _)
  refine wpe ?_
  refine hK2 _ _ ?_
  refine wp_seq_k fun K7 hK7 => ?_
  refine rw_ 2 [(243, 0), (244, 1)] [[], [0]] (rel [iI 0, iB false])
   ⟨fun f s W k l p q r a => opm (a.v 23 k15_23),
  fun f s W k l p q r a => opv rfl rfl (by simp [go_sem, a.e 243 (l 0 rfl)]) rfl, trivial⟩ ?_
  intro f16 s16 W16 hB16 g16 hg16 z16
  have fB16 := hB16.f fB3
  have b16_1 := hB16.b (hB3.b nb2)
  have q108' := (SpL.below q103' hB16.below)
  have q109' := (OwnR.below hX_ hB16.below)
  have k16_2 := kt hg16 2 (ku hg15 2 (ku hg14 2 (ku hg13 2 (ku hg12 2 (ku hg11 2 (kt hg3 2 (kt hg1 2 k_2)))))))
  have k16_16 := kt hg16 16 (ku hg15 16 (ku hg14 16 (ku hg13 16 (ku hg12 16 (ku hg11 16 (kt hg3 16 k1_16))))))
  have k16_17 := kt hg16 17 (ku hg15 17 (ku hg14 17 (ku hg13 17 (ku hg12 17 (ku hg11 17 (kt hg3 17 (kt hg1 17 k_17)))))))
  have k16_21 := kt hg16 21 (ku hg15 21 (ku hg14 21 (ku hg13 21 (ku hg12 21 (ku hg11 21 (kt hg3 21 k1_21))))))
  have k16_22 := kt hg16 22 (ku hg15 22 (kt hg14 22 (upd_same _ _ _)))
  have k16_244 := kt hg16 244 (hB16.is 1)
  refine wp_cond_false ((fr_eval rfl).trans k16_244) ?_
  refine wp_skip ?_
  refine hK7 _ _ ?_
  exact rolls_d tl ta nb cb bs (stS tb pv) n5 xs lg m htl gm gn5 hq ho hgx_ hlx_ hfl_ w0 W16 (bwt hbase_ fB16) (hT.below fB16) (s1 3) (a93') qa (c94') cq gx_ cx_ w.heap.size b16_1 q108' (hQ.below fB16) q109' g16 k16_2 k16_16 k16_17 k16_21 k16_22
end Go.Proofs.Ytcgccflcjejlhaa
