/- Part of the proof: what the claim leans on. -/
import Derived.Test.YthnediamopehfaaWBB
import Derived.Test.YthnediamopehfaaWAP
set_option linter.unusedSimpArgs false
set_option linter.unusedVariables false
namespace Go.Proofs.Ythnediamopehfaa
open Go.RowKit
set_option maxRecDepth 100000 in
set_option maxHeartbeats 4000000 in
theorem known_any (w : World) :
  Calls Try.prog 8 #[] w (fun e w' => e = .returned (.bool true) ∧ Below w.heap.size w w') := by
 refine calls_fr Try.func8 Try.ntmps8 rfl rfl fun g hg => ?_
 clear hg
 have fB0 : Below w.heap.size w w := Below.refl _ _
 refine wp_seq_k fun K1 hK1 => ?_
 refine region_dk 1 [(0, 0)] [[]] (rel [is (.bool false)])
  ⟨is_k, trivial⟩
  ⟨fun f s W j l m p q i => opv rfl rfl (by simp [go_sem]) rfl, trivial⟩ ?_
 intro f1 s1 W1 hB1 g1 hg1
 have fB1 := hB1.f fB0
 have z1 := hB1.below.size
 refine hK1 _ _ ?_
 have k1_0 := kt hg1 0 (hB1.is 0)
 refine wp_seq_k fun K2 hK2 => ?_
 refine region_dk 8 [(26, 0), (27, 1), (28, 2), (25, 3), (29, 4), (30, 5), (1, 6), (2, 7)] [[], [0], [0, 1], [0, 1, 2], [0, 1, 2, 3], [0, 1, 2, 3], [0, 1, 2, 3, 4], [0, 1, 2, 3, 4, 5, 6]] (rel [fun v s W => NwBlk (s 0) ((boxOf 304 204)) v W,
   is (.agg #[.int .i64 3000, .int .i64 4000]),
   ab fun v W => ∃ x0, v = .tuple #[x0, .int .i64 0] ∧ IsPpL 9 [(300000, 301000), (200000, 201000), (300000, 301000), (200000, 201000), (200000, 202000), (-2000, -1000), (98000, 99000), (-2000, -1000), (98000, 99000)] x0 W,
   ab fun v W => ∃ x0, v = .tuple #[x0, .int .i64 0] ∧ IsPpL 9 [(300000, 301000), (200000, 201000), (300000, 301000), (200000, 201000), (200000, 202000), (-2000, -1000), (98000, 99000), (-2000, -1000), (98000, 99000)] x0 W,
   ab fun v W => IsPpL 9 [(300000, 301000), (200000, 201000), (300000, 301000), (200000, 201000), (200000, 202000), (-2000, -1000), (98000, 99000), (-2000, -1000), (98000, 99000)] v W,
   is (.int .i64 0),
   ab fun v W => IsPpL 9 [(300000, 301000), (200000, 201000), (300000, 301000), (200000, 201000), (200000, 202000), (-2000, -1000), (98000, 99000), (-2000, -1000), (98000, 99000)] v W,
   is (.int .i64 0)])
  ⟨⟨fun v k W W' hb h => h.below hb, fun v s s' W e h => by have h' : NwBlk (s 0) ((boxOf 304 204)) v W := h; show NwBlk (s' 0) ((boxOf 304 204)) v W; rw [← e 0 (by simp)]; exact h'⟩, is_k, ab_k fun v W W' hb ⟨x0, e, h0⟩ => ⟨x0, e, h0.below hb⟩, ab_k fun v W W' hb ⟨x0, e, h0⟩ => ⟨x0, e, h0.below hb⟩, ab_k fun v W W' hb h => h.below hb, is_k, ab_k fun v W W' hb h => h.below hb, is_k, trivial⟩
  ⟨fun f s W j l m p q i => opDo_call rfl rfl (by simp [go_sem]) (box_any 304 204 W) (fun e W' h => by obtain ⟨v, e1, h1, h2⟩ := h; exact ⟨v, e1, h2, (show NwBlk (upd s 0 W.heap.size 0) ((boxOf 304 204)) v W' from by rw [upd_at]; exact h1)⟩),
  fun f s W j l m p q i => opc rfl rfl (by simp [go_sem]) (span_any 3000 4000 W),
  fun f s W j l m p q i => by obtain ⟨g1', c4', g2', c5', g3', c6', d0, ⟨q7', q9', q8'⟩, ⟨q10', q12', q11'⟩, ⟨q13', q15', q14'⟩⟩ := (l 0 rfl); exact opDo_call (args := #[.agg #[.int .i64 ((boxOf 304 204).tab), .slice (some ⟨g1', 0, none⟩) ((boxOf 304 204).panels.length) (c4'), .int .i64 ((boxOf 304 204).height), .slice (some ⟨g2', 0, none⟩) ((boxOf 304 204).top.length) (c5'), .slice (some ⟨g3', 0, none⟩) ((boxOf 304 204).bottom.length) (c6'), .int .i64 ((boxOf 304 204).slot), .bool ((boxOf 304 204).isOpen)], .agg #[.int .i64 3000, .int .i64 4000], .int .i64 0]) rfl rfl (by simp [go_sem, i.e 26 d0, i.e 27 (l 1 rfl)]) (inner_any _ (boxOf 304 204) 3000 4000 0 W ⟨_, _, _, _, _, _, _, _, _, rfl, q7', q10', q13'⟩ (by decide) (by decide)) ((fun e W' h => by obtain ⟨a, n, c, e1, h1, h2⟩ := h; rw [kv_inner.1] at e1; exact ⟨_, e1, h2, _, rfl, isPpL_of (xs := [(300000, 301000), (200000, 201000), (300000, 301000), (200000, 201000), (200000, 202000), (-2000, -1000), (98000, 99000), (-2000, -1000), (98000, 99000)]) h1 (by rw [if_pos kv_inner.1]; exact kv_inner.2) rfl⟩)),
  fun f s W j l m p q i => opv (v := (f 2)) rfl rfl (by simp [go_sem, (i.at' 28 rfl : q.tmps[28]?.getD undef = f 2)] <;> rfl) (l 2 rfl),
  fun f s W j l m p q i => by obtain ⟨x3_0, d3, p3_0⟩ := (l 3 rfl); exact opv (v := x3_0) rfl rfl (by simp [go_sem, i.e 25 d3]) p3_0,
  fun f s W j l m p q i => by obtain ⟨x3_0, d3, p3_0⟩ := (l 3 rfl); exact opv rfl rfl (by simp [go_sem, i.e 25 d3]) rfl,
  fun f s W j l m p q i => opv (v := (f 4)) rfl rfl (by simp [go_sem, (i.at' 29 rfl : q.tmps[29]?.getD undef = f 4)] <;> rfl) (l 4 rfl),
  fun f s W j l m p q i => opv rfl rfl (by simp [go_sem, i.e 30 (l 5 rfl)]) rfl, trivial⟩ ?_
 intro f2 s2 W2 hB2 g2 hg2
 have fB2 := hB2.f fB1
 have z2 := hB2.below.size
 obtain ⟨a21', o22', c23', r2_6, q24', q25'⟩ := hB2.is 6
 refine hK2 _ _ ?_
 have k2_0 := kt hg2 0 k1_0
 have k2_1 := kt hg2 1 r2_6
 have k2_2 := kt hg2 2 (hB2.is 7)
 refine wp_seq_k fun K3 hK3 => ?_
 refine region_dk 9 [(32, 0), (33, 1), (34, 2), (35, 3), (31, 4), (36, 5), (37, 6), (3, 7), (4, 8)] [[], [0], [0, 1], [0, 1, 2], [0, 1, 2, 3], [0, 1, 2, 3, 4], [0, 1, 2, 3, 4], [0, 1, 2, 3, 4, 5], [0, 1, 2, 3, 4, 5, 6, 7]] (rel [fun v s W => NwBlk (s 0) ((boxOf 304 204)) v W,
   is (.agg #[.int .i64 300, .int .i64 301, .int .i64 200, .int .i64 201, .int .i64 200, .int .i64 202, .int .i64 (-3), .int .i64 0, .int .i64 0, .int .i64 200, .bool false]),
   is (.agg #[.int .i64 2500, .int .i64 4500]),
   ab fun v W => ∃ x0, v = .tuple #[x0, .int .i64 0] ∧ IsPpL 5 [(0, 2500), (1, 2500), (2, 2500), (3, 2500), (4, 2500)] x0 W,
   ab fun v W => ∃ x0, v = .tuple #[x0, .int .i64 0] ∧ IsPpL 5 [(0, 2500), (1, 2500), (2, 2500), (3, 2500), (4, 2500)] x0 W,
   ab fun v W => IsPpL 5 [(0, 2500), (1, 2500), (2, 2500), (3, 2500), (4, 2500)] v W,
   is (.int .i64 0),
   ab fun v W => IsPpL 5 [(0, 2500), (1, 2500), (2, 2500), (3, 2500), (4, 2500)] v W,
   is (.int .i64 0)])
  ⟨⟨fun v k W W' hb h => h.below hb, fun v s s' W e h => by have h' : NwBlk (s 0) ((boxOf 304 204)) v W := h; show NwBlk (s' 0) ((boxOf 304 204)) v W; rw [← e 0 (by simp)]; exact h'⟩, is_k, is_k, ab_k fun v W W' hb ⟨x0, e, h0⟩ => ⟨x0, e, h0.below hb⟩, ab_k fun v W W' hb ⟨x0, e, h0⟩ => ⟨x0, e, h0.below hb⟩, ab_k fun v W W' hb h => h.below hb, is_k, ab_k fun v W W' hb h => h.below hb, is_k, trivial⟩
  ⟨fun f s W j l m p q i => opDo_call rfl rfl (by simp [go_sem]) (box_any 304 204 W) (fun e W' h => by obtain ⟨v, e1, h1, h2⟩ := h; exact ⟨v, e1, h2, (show NwBlk (upd s 0 W.heap.size 0) ((boxOf 304 204)) v W' from by rw [upd_at]; exact h1)⟩),
  fun f s W j l m p q i => opc rfl rfl (by simp [go_sem]) (wish2_any W),
  fun f s W j l m p q i => opc rfl rfl (by simp [go_sem]) (span_any 2500 4500 W),
  fun f s W j l m p q i => by obtain ⟨g26', c29', g27', c30', g28', c31', d0, ⟨q32', q34', q33'⟩, ⟨q35', q37', q36'⟩, ⟨q38', q40', q39'⟩⟩ := (l 0 rfl); exact opDo_call (args := #[.agg #[.int .i64 ((boxOf 304 204).tab), .slice (some ⟨g26', 0, none⟩) ((boxOf 304 204).panels.length) (c29'), .int .i64 ((boxOf 304 204).height), .slice (some ⟨g27', 0, none⟩) ((boxOf 304 204).top.length) (c30'), .slice (some ⟨g28', 0, none⟩) ((boxOf 304 204).bottom.length) (c31'), .int .i64 ((boxOf 304 204).slot), .bool ((boxOf 304 204).isOpen)], .agg #[.int .i64 300, .int .i64 301, .int .i64 200, .int .i64 201, .int .i64 200, .int .i64 202, .int .i64 (-3), .int .i64 0, .int .i64 0, .int .i64 200, .bool false], .agg #[.int .i64 2500, .int .i64 4500]]) rfl rfl (by simp [go_sem, i.e 32 d0, i.e 33 (l 1 rfl), i.e 34 (l 2 rfl)]) (close_any _ (boxOf 304 204) 300 301 200 201 200 202 (-3) 0 0 200 false 2500 4500 W ⟨_, _, _, _, _, _, _, _, _, rfl, q32', q35', q38'⟩) ((fun e W' h => by obtain ⟨a, n, c, e1, h1, h2⟩ := h; rw [show wishedErr (boxOf 304 204) ⟨(300, 301), (200, 201), (200, 202), (-3, 0), (0, 200), false⟩ [(2500, 4500)] = 0 from kv_close.1] at e1; exact ⟨_, e1, h2, _, rfl, isPpL_of (xs := [(0, 2500), (1, 2500), (2, 2500), (3, 2500), (4, 2500)]) h1 (by rw [if_pos (show wishedErr (boxOf 304 204) ⟨(300, 301), (200, 201), (200, 202), (-3, 0), (0, 200), false⟩ [(2500, 4500)] = 0 from kv_close.1)]; exact kv_close.2) rfl⟩)),
  fun f s W j l m p q i => opv (v := (f 3)) rfl rfl (by simp [go_sem, (i.at' 35 rfl : q.tmps[35]?.getD undef = f 3)] <;> rfl) (l 3 rfl),
  fun f s W j l m p q i => by obtain ⟨x4_0, d4, p4_0⟩ := (l 4 rfl); exact opv (v := x4_0) rfl rfl (by simp [go_sem, i.e 31 d4]) p4_0,
  fun f s W j l m p q i => by obtain ⟨x4_0, d4, p4_0⟩ := (l 4 rfl); exact opv rfl rfl (by simp [go_sem, i.e 31 d4]) rfl,
  fun f s W j l m p q i => opv (v := (f 5)) rfl rfl (by simp [go_sem, (i.at' 36 rfl : q.tmps[36]?.getD undef = f 5)] <;> rfl) (l 5 rfl),
  fun f s W j l m p q i => opv rfl rfl (by simp [go_sem, i.e 37 (l 6 rfl)]) rfl, trivial⟩ ?_
 intro f3 s3 W3 hB3 g3 hg3
 have fB3 := hB3.f fB2
 have z3 := hB3.below.size
 have q46' := (q24'.bw hB3)
 have q47' := (hB3.lt q25')
 obtain ⟨a48', o49', c50', r3_7, q51', q52'⟩ := hB3.is 7
 refine hK3 _ _ ?_
 have k3_0 := kt hg3 0 k2_0
 have k3_1 := kt hg3 1 k2_1
 have k3_2 := kt hg3 2 k2_2
 have k3_3 := kt hg3 3 r3_7
 have k3_4 := kt hg3 4 (hB3.is 8)
 refine wp_seq_k fun K4 hK4 => ?_
 refine region_dk 7 [(39, 0), (40, 1), (41, 2), (38, 3), (42, 4), (43, 5), (5, 6), (6, 8)] [[], [0], [0, 1], [0, 1, 2], [0, 1, 2, 3], [0, 1, 2, 3], [], [0, 1, 2, 3, 4, 6], [0, 1, 2, 3, 4, 5, 6, 7]] (rel [fun v s W => NwBlk (s 0) ((boxOf 304 204)) v W,
   is (.agg #[.int .i64 300, .int .i64 301, .int .i64 200, .int .i64 201, .int .i64 200, .int .i64 202, .int .i64 (-3), .int .i64 0, .int .i64 0, .int .i64 200, .bool false]),
   is (.tuple #[.agg #[.int .i64 3000, .int .i64 4000], .int .i64 0]),
   is (.tuple #[.agg #[.int .i64 3000, .int .i64 4000], .int .i64 0]),
   is (.agg #[.int .i64 3000, .int .i64 4000]),
   is (.int .i64 0),
   bx 6 #[.int .i64 0, .int .i64 0] 37])
  ⟨⟨fun v k W W' hb h => h.below hb, fun v s s' W e h => by have h' : NwBlk (s 0) ((boxOf 304 204)) v W := h; show NwBlk (s' 0) ((boxOf 304 204)) v W; rw [← e 0 (by simp)]; exact h'⟩, is_k, is_k, is_k, is_k, is_k, bx_k, trivial⟩
  ⟨fun f s W j l m p q i => opDo_call rfl rfl (by simp [go_sem]) (box_any 304 204 W) (fun e W' h => by obtain ⟨v, e1, h1, h2⟩ := h; exact ⟨v, e1, h2, (show NwBlk (upd s 0 W.heap.size 0) ((boxOf 304 204)) v W' from by rw [upd_at]; exact h1)⟩),
  fun f s W j l m p q i => opc rfl rfl (by simp [go_sem]) (wish2_any W),
  fun f s W j l m p q i => by obtain ⟨g53', c56', g54', c57', g55', c58', d0, ⟨q59', q61', q60'⟩, ⟨q62', q64', q63'⟩, ⟨q65', q67', q66'⟩⟩ := (l 0 rfl); exact opDo_call (args := #[.agg #[.int .i64 ((boxOf 304 204).tab), .slice (some ⟨g53', 0, none⟩) ((boxOf 304 204).panels.length) (c56'), .int .i64 ((boxOf 304 204).height), .slice (some ⟨g54', 0, none⟩) ((boxOf 304 204).top.length) (c57'), .slice (some ⟨g55', 0, none⟩) ((boxOf 304 204).bottom.length) (c58'), .int .i64 ((boxOf 304 204).slot), .bool ((boxOf 304 204).isOpen)], .agg #[.int .i64 300, .int .i64 301, .int .i64 200, .int .i64 201, .int .i64 200, .int .i64 202, .int .i64 (-3), .int .i64 0, .int .i64 0, .int .i64 200, .bool false]]) rfl rfl (by simp [go_sem, i.e 39 d0, i.e 40 (l 1 rfl)]) (calipers_any _ (boxOf 304 204) 300 301 200 201 200 202 (-3) 0 0 200 false W ⟨_, _, _, _, _, _, _, _, _, rfl, q59', q62', q65'⟩) ((fun e W' h => ⟨_, h.1, h.2, by show (Value.tuple #[.agg #[.int .i64 (calOf (boxOf 304 204) wishB).1, .int .i64 (calOf (boxOf 304 204) wishB).2], .int .i64 (calErr (boxOf 304 204) wishB)]) = _; rw [kv_cal.1, kv_cal.2]⟩)),
  fun f s W j l m p q i => opv rfl rfl (by simp [go_sem, i.e 41 (l 2 rfl)]) rfl,
  fun f s W j l m p q i => opv rfl rfl (by simp [go_sem, i.e 38 (l 3 rfl)]) rfl,
  fun f s W j l m p q i => opv rfl rfl (by simp [go_sem, i.e 38 (l 3 rfl)]) rfl,
  fun f s W j l m p q i => opb rfl rfl (by simp [go_sem]), trivial⟩ ?_
 intro f4 s4 W4 hB4 g4 hg4
 have fB4 := hB4.f fB3
 have z4 := hB4.below.size
 have q68' := (q46'.bw hB4)
 have q69' := (hB4.lt q47')
 have q70' := (q51'.bw hB4)
 have q71' := (hB4.lt q52')
 obtain ⟨r4_6, br4_6⟩ := hB4.is 6
 have lr4_6 := hB4.lr 6 br4_6
 have k4_0 := kt hg4 0 k3_0
 have k4_1 := kt hg4 1 k3_1
 have k4_2 := kt hg4 2 k3_2
 have k4_3 := kt hg4 3 k3_3
 have k4_4 := kt hg4 4 k3_4
 have k4_42 := kt hg4 42 (hB4.is 4)
 have k4_43 := kt hg4 43 (hB4.is 5)
 have k4_5 := kt hg4 5 r4_6
 obtain ⟨W5, hW5⟩ : ∃ W', W' = W4.setRow (s4 6) #[.int .i64 3000, .int .i64 4000] := ⟨_, rfl⟩
 refine tail_skip (o := _) rfl ⟨rfl, rfl⟩ (run_seg hW5 (fr_ev k4_5) (fr_ev k4_42) br4_6 rfl rfl rfl rfl) ?_
 obtain ⟨fB5, nb5, ot5, z5⟩ := seg_facts hW5 fB4 br4_6 (by omega)
 clear hW5
 have q72' := (q68'.other ot5 q69' (by omega) z5)
 have q73' := Nat.lt_of_lt_of_le q69' z5
 have q74' := (q70'.other ot5 q71' (by omega) z5)
 have q75' := Nat.lt_of_lt_of_le q71' z5
 refine tail_value (o := _) rfl rfl rfl (v := .int .i64 0) (by simp [go_sem, frv 214 k4_43]) ?_
 generalize hg6 : upd g4 6 (.int .i64 0) = g6
 have k6_0 := ku hg6 0 k4_0
 have k6_1 := ku hg6 1 k4_1
 have k6_2 := ku hg6 2 k4_2
 have k6_3 := ku hg6 3 k4_3
 have k6_4 := ku hg6 4 k4_4
 have k6_5 := ku hg6 5 k4_5
 have k6_6 := kt hg6 6 (upd_same _ _ _)
 refine wpOps_end ?_
 refine hK4 _ _ ?_
 refine wp_seq_k fun K5 hK5 => ?_
 refine region_dk 8 [(45, 0), (46, 1), (47, 2), (44, 3), (48, 4), (49, 5), (50, 6), (7, 7), (8, 9), (9, 10)] [[], [0], [0, 1], [0, 1, 2], [0, 1, 2, 3], [0, 1, 2, 3], [0, 1, 2, 3], [], [0, 1, 2, 3, 4, 7], [0, 1, 2, 3, 4, 5, 7, 8], [0, 1, 2, 3, 4, 5, 6, 7, 8, 9]] (rel [is (.agg #[.int .i64 300, .int .i64 301, .int .i64 200, .int .i64 201, .int .i64 200, .int .i64 202, .int .i64 (-3), .int .i64 0, .int .i64 0, .int .i64 200, .bool false]),
   is (.agg #[.int .i64 3000, .int .i64 4000]),
   fun v s W => ∃ x0, v = .tuple #[x0, .int .i64 0, .int .i64 0] ∧ NwBlk (s 2) (wantB) x0 W,
   fun v s W => ∃ x0, v = .tuple #[x0, .int .i64 0, .int .i64 0] ∧ NwBlk (s 2) (wantB) x0 W,
   fun v s W => NwBlk (s 2) (wantB) v W,
   is (.int .i64 0),
   is (.int .i64 0),
   bx 7 #[.int .i64 0, .slice (none) (0) (0), .int .i64 0, .slice (none) (0) (0), .slice (none) (0) (0), .int .i64 0, .bool false] 24])
  ⟨is_k, is_k, ⟨fun v k W W' hb ⟨x0, e, h0⟩ => ⟨x0, e, h0.below hb⟩, fun v s s' W e ⟨x0, e1, h0⟩ => ⟨x0, e1, (e 2 (by simp)) ▸ h0⟩⟩, ⟨fun v k W W' hb ⟨x0, e, h0⟩ => ⟨x0, e, h0.below hb⟩, fun v s s' W e h => by have h' : ∃ x0, v = .tuple #[x0, .int .i64 0, .int .i64 0] ∧ NwBlk (s 2) (wantB) x0 W := h; show ∃ x0, v = .tuple #[x0, .int .i64 0, .int .i64 0] ∧ NwBlk (s' 2) (wantB) x0 W; rw [← e 2 (by simp)]; exact h'⟩, ⟨fun v k W W' hb h => h.below hb, fun v s s' W e h => by have h' : NwBlk (s 2) (wantB) v W := h; show NwBlk (s' 2) (wantB) v W; rw [← e 2 (by simp)]; exact h'⟩, is_k, is_k, bx_k, trivial⟩
  ⟨fun f s W j l m p q i => opc rfl rfl (by simp [go_sem]) (wish2_any W),
  fun f s W j l m p q i => opc rfl rfl (by simp [go_sem]) (span_any 3000 4000 W),
  fun f s W j l m p q i => opDo_call rfl rfl (by simp [go_sem, i.e 45 (l 0 rfl), i.e 46 (l 1 rfl)]) (blank_good 300 301 200 201 200 202 (-3) 0 0 200 3000 4000 false 35 W (by kernel_rfl) (by kernel_rfl) (by kernel_rfl) (by kernel_rfl)) ((fun e W' h => by rw [show blankAll ⟨(300, 301), (200, 201), (200, 202), (-3, 0), (0, 200), false⟩ 3000 4000 35 = _ from kv_blank] at h; obtain ⟨v, e1, h1, h2⟩ := h.1 rfl; exact ⟨_, e1, h2, v, rfl, (show NwBlk (upd s 2 W.heap.size 2) wantB v W' from by rw [upd_at]; exact h1)⟩)),
  fun f s W j l m p q i => opv (v := (f 2)) rfl rfl (by simp [go_sem, (i.at' 47 rfl : q.tmps[47]?.getD undef = f 2)] <;> rfl) (l 2 rfl),
  fun f s W j l m p q i => by obtain ⟨x3_0, d3, p3_0⟩ := (l 3 rfl); exact opv (v := x3_0) rfl rfl (by simp [go_sem, i.e 44 d3]) p3_0,
  fun f s W j l m p q i => by obtain ⟨x3_0, d3, p3_0⟩ := (l 3 rfl); exact opv rfl rfl (by simp [go_sem, i.e 44 d3]) rfl,
  fun f s W j l m p q i => by obtain ⟨x3_0, d3, p3_0⟩ := (l 3 rfl); exact opv rfl rfl (by simp [go_sem, i.e 44 d3]) rfl,
  fun f s W j l m p q i => opb rfl rfl (by simp [go_sem]), trivial⟩ ?_
 intro f7 s7 W7 hB7 g7 hg7
 have fB7 := hB7.f fB5
 have z7 := hB7.below.size
 have b7_0 := hB7.b nb5
 have q76' := (q72'.bw hB7)
 have q77' := (hB7.lt q73')
 have q78' := (q74'.bw hB7)
 have q79' := (hB7.lt q75')
 have la7_4_2 := hB7.from' 2 (by decide)
 obtain ⟨g80', c83', g81', c84', g82', c85', r7_4, ⟨q86', q88', q87'⟩, ⟨q89', q91', q90'⟩, ⟨q92', q94', q93'⟩⟩ := hB7.is 4
 obtain ⟨r7_7, br7_7⟩ := hB7.is 7
 have lr7_7 := hB7.lr 7 br7_7
 have oc7_4_7_0 := ii_ne q86' br7_7 rfl rfl (by first | simp | nofun)
 have oc7_4_7_1 := ii_ne q89' br7_7 rfl rfl (by first | simp | nofun)
 have oc7_4_7_2 := ii_ne q92' br7_7 rfl rfl (by first | simp | nofun)
 have k7_0 := kt hg7 0 k6_0
 have k7_1 := kt hg7 1 k6_1
 have k7_2 := kt hg7 2 k6_2
 have k7_3 := kt hg7 3 k6_3
 have k7_4 := kt hg7 4 k6_4
 have k7_5 := kt hg7 5 k6_5
 have k7_6 := kt hg7 6 k6_6
 have k7_48 := kt hg7 48 r7_4
 have k7_49 := kt hg7 49 (hB7.is 5)
 have k7_50 := kt hg7 50 (hB7.is 6)
 have k7_7 := kt hg7 7 r7_7
 obtain ⟨W8, hW8⟩ : ∃ W', W' = W7.setRow (s7 7) #[.int .i64 wantB.tab, .slice (some ⟨g80', 0, none⟩) (wantB.panels.length) (c83'), .int .i64 wantB.height, .slice (some ⟨g81', 0, none⟩) (wantB.top.length) (c84'), .slice (some ⟨g82', 0, none⟩) (wantB.bottom.length) (c85'), .int .i64 wantB.slot, .bool wantB.isOpen] := ⟨_, rfl⟩
 refine tail_skip (o := _) rfl ⟨rfl, rfl⟩ (run_seg hW8 (fr_ev k7_7) (fr_ev k7_48) br7_7 rfl rfl rfl rfl) ?_
 obtain ⟨fB8, nb8, ot8, z8⟩ := seg_facts hW8 fB7 br7_7 (by omega)
 clear hW8
 have b8_0 := ot8 _ _ (by omega) b7_0
 have q95' := (q76'.other ot8 q77' (by omega) z8)
 have q96' := Nat.lt_of_lt_of_le q77' z8
 have q97' := (q78'.other ot8 q79' (by omega) z8)
 have q98' := Nat.lt_of_lt_of_le q79' z8
 have q99' := (q86'.other ot8 q87' (by omega) z8)
 have q100' := Nat.lt_of_lt_of_le q87' z8
 have q101' := (q89'.other ot8 q90' (by omega) z8)
 have q102' := Nat.lt_of_lt_of_le q90' z8
 have q103' := (q92'.other ot8 q93' (by omega) z8)
 have q104' := Nat.lt_of_lt_of_le q93' z8
 refine tail_value (o := _) rfl rfl rfl (v := .int .i64 0) (by simp [go_sem, frv 214 k7_49]) ?_
 generalize hg9 : upd g7 8 (.int .i64 0) = g9
 have k9_0 := ku hg9 0 k7_0
 have k9_1 := ku hg9 1 k7_1
 have k9_2 := ku hg9 2 k7_2
 have k9_3 := ku hg9 3 k7_3
 have k9_4 := ku hg9 4 k7_4
 have k9_5 := ku hg9 5 k7_5
 have k9_6 := ku hg9 6 k7_6
 have k9_50 := ku hg9 50 k7_50
 have k9_7 := ku hg9 7 k7_7
 have k9_8 := kt hg9 8 (upd_same _ _ _)
 refine tail_value (o := _) rfl rfl rfl (v := .int .i64 0) (by simp [go_sem, frv 214 k9_50]) ?_
 generalize hg10 : upd g9 9 (.int .i64 0) = g10
 have k10_0 := ku hg10 0 k9_0
 have k10_1 := ku hg10 1 k9_1
 have k10_2 := ku hg10 2 k9_2
 have k10_3 := ku hg10 3 k9_3
 have k10_4 := ku hg10 4 k9_4
 have k10_5 := ku hg10 5 k9_5
 have k10_6 := ku hg10 6 k9_6
 have k10_7 := ku hg10 7 k9_7
 have k10_9 := kt hg10 9 (upd_same _ _ _)
 refine wpOps_end ?_
 refine hK5 _ _ ?_
 refine wp_seq_k fun K6 hK6 => ?_
 refine region_dk 11 [(52, 0), (53, 1), (51, 2), (54, 3), (55, 4), (56, 5), (57, 6), (10, 7), (11, 8), (12, 9), (13, 10)] [[], [0], [0, 1], [0, 1, 2], [0, 1, 2], [0, 1, 2], [0, 1, 2], [0, 1, 2, 3], [0, 1, 2, 3, 4, 7], [0, 1, 2, 3, 4, 5, 7, 8], [0, 1, 2, 3, 4, 5, 6, 7, 8, 9]] (rel [fun v s W => NwBlk (s 0) ((boxOf 304 204)) v W,
   is (.tuple #[.int .i64 1051, .int .i64 410, .int .i64 430910, .int .i64 0]),
   is (.tuple #[.int .i64 1051, .int .i64 410, .int .i64 430910, .int .i64 0]),
   is (.int .i64 1051),
   is (.int .i64 410),
   is (.int .i64 430910),
   is (.int .i64 0),
   is (.int .i64 1051),
   is (.int .i64 410),
   is (.int .i64 430910),
   is (.int .i64 0)])
  ⟨⟨fun v k W W' hb h => h.below hb, fun v s s' W e h => by have h' : NwBlk (s 0) ((boxOf 304 204)) v W := h; show NwBlk (s' 0) ((boxOf 304 204)) v W; rw [← e 0 (by simp)]; exact h'⟩, is_k, is_k, is_k, is_k, is_k, is_k, is_k, is_k, is_k, is_k, trivial⟩
  ⟨fun f s W j l m p q i => opDo_call rfl rfl (by simp [go_sem]) (box_any 304 204 W) (fun e W' h => by obtain ⟨v, e1, h1, h2⟩ := h; exact ⟨v, e1, h2, (show NwBlk (upd s 0 W.heap.size 0) ((boxOf 304 204)) v W' from by rw [upd_at]; exact h1)⟩),
  fun f s W j l m p q i => by obtain ⟨g105', c108', g106', c109', g107', c110', d0, ⟨q111', q113', q112'⟩, ⟨q114', q116', q115'⟩, ⟨q117', q119', q118'⟩⟩ := (l 0 rfl); exact opDo_call (args := #[.agg #[.int .i64 ((boxOf 304 204).tab), .slice (some ⟨g105', 0, none⟩) ((boxOf 304 204).panels.length) (c108'), .int .i64 ((boxOf 304 204).height), .slice (some ⟨g106', 0, none⟩) ((boxOf 304 204).top.length) (c109'), .slice (some ⟨g107', 0, none⟩) ((boxOf 304 204).bottom.length) (c110'), .int .i64 ((boxOf 304 204).slot), .bool ((boxOf 304 204).isOpen)]]) rfl rfl (by simp [go_sem, i.e 52 d0]) (size_any _ (boxOf 304 204) W ⟨_, _, _, _, _, _, _, _, _, rfl, q111', q114', q117'⟩) ((fun e W' h => ⟨_, h.1, h.2, by rw [if_pos kv_size.1, kv_size.2.1, kv_size.2.2]; rfl⟩)),
  fun f s W j l m p q i => opv rfl rfl (by simp [go_sem, i.e 53 (l 1 rfl)]) rfl,
  fun f s W j l m p q i => opv rfl rfl (by simp [go_sem, i.e 51 (l 2 rfl)]) rfl,
  fun f s W j l m p q i => opv rfl rfl (by simp [go_sem, i.e 51 (l 2 rfl)]) rfl,
  fun f s W j l m p q i => opv rfl rfl (by simp [go_sem, i.e 51 (l 2 rfl)]) rfl,
  fun f s W j l m p q i => opv rfl rfl (by simp [go_sem, i.e 51 (l 2 rfl)]) rfl,
  fun f s W j l m p q i => opv rfl rfl (by simp [go_sem, i.e 54 (l 3 rfl)]) rfl,
  fun f s W j l m p q i => opv rfl rfl (by simp [go_sem, i.e 55 (l 4 rfl)]) rfl,
  fun f s W j l m p q i => opv rfl rfl (by simp [go_sem, i.e 56 (l 5 rfl)]) rfl,
  fun f s W j l m p q i => opv rfl rfl (by simp [go_sem, i.e 57 (l 6 rfl)]) rfl, trivial⟩ ?_
 intro f11 s11 W11 hB11 g11 hg11
 have fB11 := hB11.f fB8
 have z11 := hB11.below.size
 have b11_0 := hB11.b b8_0
 have b11_1 := hB11.b nb8
 have q120' := (q95'.bw hB11)
 have q121' := (hB11.lt q96')
 have q122' := (q97'.bw hB11)
 have q123' := (hB11.lt q98')
 have q124' := (q99'.bw hB11)
 have q125' := (hB11.lt q100')
 have q126' := (q101'.bw hB11)
 have q127' := (hB11.lt q102')
 have q128' := (q103'.bw hB11)
 have q129' := (hB11.lt q104')
 refine hK6 _ _ ?_
 have k11_0 := kt hg11 0 k10_0
 have k11_1 := kt hg11 1 k10_1
 have k11_2 := kt hg11 2 k10_2
 have k11_3 := kt hg11 3 k10_3
 have k11_4 := kt hg11 4 k10_4
 have k11_5 := kt hg11 5 k10_5
 have k11_6 := kt hg11 6 k10_6
 have k11_7 := kt hg11 7 k10_7
 have k11_9 := kt hg11 9 k10_9
 have k11_10 := kt hg11 10 (hB11.is 7)
 have k11_11 := kt hg11 11 (hB11.is 8)
 have k11_12 := kt hg11 12 (hB11.is 9)
 have k11_13 := kt hg11 13 (hB11.is 10)
 refine wp_seq_k fun K7 hK7 => ?_
 refine region_dk 9 [(59, 0), (60, 1), (58, 2), (61, 3), (62, 4), (63, 5), (14, 6), (15, 7), (16, 8)] [[], [0], [0, 1], [0, 1, 2], [0, 1, 2], [0, 1, 2], [0, 1, 2, 3], [0, 1, 2, 3, 4, 6], [0, 1, 2, 3, 4, 5, 6, 7]] (rel [fun v s W => NwBlk (s 0) ((boxOf 304 204)) v W,
   ab fun v W => ∃ x0 x1, v = .tuple #[x0, x1, .int .i64 0] ∧ IsIiL 4 [35, 339, 543, 847] x0 W ∧ IsIiL 2 [101, 309] x1 W,
   ab fun v W => ∃ x0 x1, v = .tuple #[x0, x1, .int .i64 0] ∧ IsIiL 4 [35, 339, 543, 847] x0 W ∧ IsIiL 2 [101, 309] x1 W,
   ab fun v W => IsIiL 4 [35, 339, 543, 847] v W,
   ab fun v W => IsIiL 2 [101, 309] v W,
   is (.int .i64 0),
   ab fun v W => IsIiL 4 [35, 339, 543, 847] v W,
   ab fun v W => IsIiL 2 [101, 309] v W,
   is (.int .i64 0)])
  ⟨⟨fun v k W W' hb h => h.below hb, fun v s s' W e h => by have h' : NwBlk (s 0) ((boxOf 304 204)) v W := h; show NwBlk (s' 0) ((boxOf 304 204)) v W; rw [← e 0 (by simp)]; exact h'⟩, ab_k fun v W W' hb ⟨x0, x1, e, h0, h1⟩ => ⟨x0, x1, e, h0.below hb, h1.below hb⟩, ab_k fun v W W' hb ⟨x0, x1, e, h0, h1⟩ => ⟨x0, x1, e, h0.below hb, h1.below hb⟩, ab_k fun v W W' hb h => h.below hb, ab_k fun v W W' hb h => h.below hb, is_k, ab_k fun v W W' hb h => h.below hb, ab_k fun v W W' hb h => h.below hb, is_k, trivial⟩
  ⟨fun f s W j l m p q i => opDo_call rfl rfl (by simp [go_sem]) (box_any 304 204 W) (fun e W' h => by obtain ⟨v, e1, h1, h2⟩ := h; exact ⟨v, e1, h2, (show NwBlk (upd s 0 W.heap.size 0) ((boxOf 304 204)) v W' from by rw [upd_at]; exact h1)⟩),
  fun f s W j l m p q i => by obtain ⟨g130', c133', g131', c134', g132', c135', d0, ⟨q136', q138', q137'⟩, ⟨q139', q141', q140'⟩, ⟨q142', q144', q143'⟩⟩ := (l 0 rfl); exact opDo_call (args := #[.agg #[.int .i64 ((boxOf 304 204).tab), .slice (some ⟨g130', 0, none⟩) ((boxOf 304 204).panels.length) (c133'), .int .i64 ((boxOf 304 204).height), .slice (some ⟨g131', 0, none⟩) ((boxOf 304 204).top.length) (c134'), .slice (some ⟨g132', 0, none⟩) ((boxOf 304 204).bottom.length) (c135'), .int .i64 ((boxOf 304 204).slot), .bool ((boxOf 304 204).isOpen)]]) rfl rfl (by simp [go_sem, i.e 59 d0]) (scores_any _ (boxOf 304 204) W ⟨_, _, _, _, _, _, _, _, _, rfl, q136', q139', q142'⟩) ((fun e W' h => by obtain ⟨a, n, c, a', n', c', e1, h1, h2, h3⟩ := h; rw [kv_size.1] at e1; exact ⟨_, e1, h3, _, _, rfl, isIiL_of (xs := [35, 339, 543, 847]) h1 (by rw [if_pos kv_size.1]; exact kv_scores.1) rfl, isIiL_of (xs := [101, 309]) h2 (by rw [if_pos kv_size.1, kv_scores.2]; rfl) rfl⟩)),
  fun f s W j l m p q i => opv (v := (f 1)) rfl rfl (by simp [go_sem, (i.at' 60 rfl : q.tmps[60]?.getD undef = f 1)] <;> rfl) (l 1 rfl),
  fun f s W j l m p q i => by obtain ⟨x2_0, x2_1, d2, p2_0, p2_1⟩ := (l 2 rfl); exact opv (v := x2_0) rfl rfl (by simp [go_sem, i.e 58 d2]) p2_0,
  fun f s W j l m p q i => by obtain ⟨x2_0, x2_1, d2, p2_0, p2_1⟩ := (l 2 rfl); exact opv (v := x2_1) rfl rfl (by simp [go_sem, i.e 58 d2]) p2_1,
  fun f s W j l m p q i => by obtain ⟨x2_0, x2_1, d2, p2_0, p2_1⟩ := (l 2 rfl); exact opv rfl rfl (by simp [go_sem, i.e 58 d2]) rfl,
  fun f s W j l m p q i => opv (v := (f 3)) rfl rfl (by simp [go_sem, (i.at' 61 rfl : q.tmps[61]?.getD undef = f 3)] <;> rfl) (l 3 rfl),
  fun f s W j l m p q i => opv (v := (f 4)) rfl rfl (by simp [go_sem, (i.at' 62 rfl : q.tmps[62]?.getD undef = f 4)] <;> rfl) (l 4 rfl),
  fun f s W j l m p q i => opv rfl rfl (by simp [go_sem, i.e 63 (l 5 rfl)]) rfl, trivial⟩ ?_
 intro f12 s12 W12 hB12 g12 hg12
 have fB12 := hB12.f fB11
 have z12 := hB12.below.size
 have b12_0 := hB12.b b11_0
 have b12_1 := hB12.b b11_1
 have q155' := (q120'.bw hB12)
 have q156' := (hB12.lt q121')
 have q157' := (q122'.bw hB12)
 have q158' := (hB12.lt q123')
 have q159' := (q124'.bw hB12)
 have q160' := (hB12.lt q125')
 have q161' := (q126'.bw hB12)
 have q162' := (hB12.lt q127')
 have q163' := (q128'.bw hB12)
 have q164' := (hB12.lt q129')
 obtain ⟨a165', o166', c167', r12_6, q168', q169'⟩ := hB12.is 6
 obtain ⟨a170', o171', c172', r12_7, q173', q174'⟩ := hB12.is 7
 refine hK7 _ _ ?_
 have k12_0 := kt hg12 0 k11_0
 have k12_1 := kt hg12 1 k11_1
 have k12_2 := kt hg12 2 k11_2
 have k12_3 := kt hg12 3 k11_3
 have k12_4 := kt hg12 4 k11_4
 have k12_5 := kt hg12 5 k11_5
 have k12_6 := kt hg12 6 k11_6
 have k12_7 := kt hg12 7 k11_7
 have k12_9 := kt hg12 9 k11_9
 have k12_10 := kt hg12 10 k11_10
 have k12_11 := kt hg12 11 k11_11
 have k12_12 := kt hg12 12 k11_12
 have k12_13 := kt hg12 13 k11_13
 have k12_14 := kt hg12 14 r12_6
 have k12_15 := kt hg12 15 r12_7
 have k12_16 := kt hg12 16 (hB12.is 8)
 refine wp_seq_k fun K8 hK8 => ?_
 refine region_dk 10 [(65, 0), (66, 1), (67, 2), (68, 3), (69, 4), (64, 5), (70, 6), (71, 7), (17, 8), (18, 9)] [[], [0], [0, 1], [0, 1, 2], [0, 1, 2, 3], [0, 1, 2, 3, 4], [0, 1, 2, 3, 4, 5], [0, 1, 2, 3, 4, 5], [0, 1, 2, 3, 4, 5, 6], [0, 1, 2, 3, 4, 5, 6, 7, 8]] (rel [fun v s W => NwBlk (s 0) ((boxOf 318 218)) v W,
   fun v s W => NwBlk (s 1) ((boxOf 304 204)) v W,
   is (.agg #[.int .i64 3000, .int .i64 4000]),
   is (.agg #[.int .i64 3000, .int .i64 4000]),
   ab fun v W => ∃ x0, v = .tuple #[x0, .int .i64 0] ∧ IsPpL 4 [(6000, 8000), (6000, 8000), (6000, 8000), (6000, 8000)] x0 W,
   ab fun v W => ∃ x0, v = .tuple #[x0, .int .i64 0] ∧ IsPpL 4 [(6000, 8000), (6000, 8000), (6000, 8000), (6000, 8000)] x0 W,
   ab fun v W => IsPpL 4 [(6000, 8000), (6000, 8000), (6000, 8000), (6000, 8000)] v W,
   is (.int .i64 0),
   ab fun v W => IsPpL 4 [(6000, 8000), (6000, 8000), (6000, 8000), (6000, 8000)] v W,
   is (.int .i64 0)])
  ⟨⟨fun v k W W' hb h => h.below hb, fun v s s' W e h => by have h' : NwBlk (s 0) ((boxOf 318 218)) v W := h; show NwBlk (s' 0) ((boxOf 318 218)) v W; rw [← e 0 (by simp)]; exact h'⟩, ⟨fun v k W W' hb h => h.below hb, fun v s s' W e h => by have h' : NwBlk (s 1) ((boxOf 304 204)) v W := h; show NwBlk (s' 1) ((boxOf 304 204)) v W; rw [← e 1 (by simp)]; exact h'⟩, is_k, is_k, ab_k fun v W W' hb ⟨x0, e, h0⟩ => ⟨x0, e, h0.below hb⟩, ab_k fun v W W' hb ⟨x0, e, h0⟩ => ⟨x0, e, h0.below hb⟩, ab_k fun v W W' hb h => h.below hb, is_k, ab_k fun v W W' hb h => h.below hb, is_k, trivial⟩
  ⟨fun f s W j l m p q i => opDo_call rfl rfl (by simp [go_sem]) (box_any 318 218 W) (fun e W' h => by obtain ⟨v, e1, h1, h2⟩ := h; exact ⟨v, e1, h2, (show NwBlk (upd s 0 W.heap.size 0) ((boxOf 318 218)) v W' from by rw [upd_at]; exact h1)⟩),
  fun f s W j l m p q i => opDo_call rfl rfl (by simp [go_sem]) (box_any 304 204 W) (fun e W' h => by obtain ⟨v, e1, h1, h2⟩ := h; exact ⟨v, e1, h2, (show NwBlk (upd s 1 W.heap.size 1) ((boxOf 304 204)) v W' from by rw [upd_at]; exact h1)⟩),
  fun f s W j l m p q i => opc rfl rfl (by simp [go_sem]) (span_any 3000 4000 W),
  fun f s W j l m p q i => opc rfl rfl (by simp [go_sem]) (span_any 3000 4000 W),
  fun f s W j l m p q i => by obtain ⟨g175', c178', g176', c179', g177', c180', d0, ⟨q181', q183', q182'⟩, ⟨q184', q186', q185'⟩, ⟨q187', q189', q188'⟩⟩ := (l 0 rfl); obtain ⟨g190', c193', g191', c194', g192', c195', d1, ⟨q196', q198', q197'⟩, ⟨q199', q201', q200'⟩, ⟨q202', q204', q203'⟩⟩ := (l 1 rfl); exact opDo_call (args := #[.agg #[.int .i64 ((boxOf 318 218).tab), .slice (some ⟨g175', 0, none⟩) ((boxOf 318 218).panels.length) (c178'), .int .i64 ((boxOf 318 218).height), .slice (some ⟨g176', 0, none⟩) ((boxOf 318 218).top.length) (c179'), .slice (some ⟨g177', 0, none⟩) ((boxOf 318 218).bottom.length) (c180'), .int .i64 ((boxOf 318 218).slot), .bool ((boxOf 318 218).isOpen)], .agg #[.int .i64 ((boxOf 304 204).tab), .slice (some ⟨g190', 0, none⟩) ((boxOf 304 204).panels.length) (c193'), .int .i64 ((boxOf 304 204).height), .slice (some ⟨g191', 0, none⟩) ((boxOf 304 204).top.length) (c194'), .slice (some ⟨g192', 0, none⟩) ((boxOf 304 204).bottom.length) (c195'), .int .i64 ((boxOf 304 204).slot), .bool ((boxOf 304 204).isOpen)], .agg #[.int .i64 3000, .int .i64 4000], .agg #[.int .i64 3000, .int .i64 4000]]) rfl rfl (by simp [go_sem, i.e 65 d0, i.e 66 d1, i.e 67 (l 2 rfl), i.e 68 (l 3 rfl)]) (play_any _ _ (boxOf 318 218) (boxOf 304 204) 3000 4000 3000 4000 W ⟨_, _, _, _, _, _, _, _, _, rfl, q181', q184', q187'⟩ ⟨_, _, _, _, _, _, _, _, _, rfl, q196', q199', q202'⟩) ((fun e W' h => by obtain ⟨a, n, c, e1, h1, h2⟩ := h; rw [kv_play.1] at e1; exact ⟨_, e1, h2, _, rfl, isPpL_of (xs := [(6000, 8000), (6000, 8000), (6000, 8000), (6000, 8000)]) h1 (by rw [if_pos kv_play.1]; exact kv_play.2) rfl⟩)),
  fun f s W j l m p q i => opv (v := (f 4)) rfl rfl (by simp [go_sem, (i.at' 69 rfl : q.tmps[69]?.getD undef = f 4)] <;> rfl) (l 4 rfl),
  fun f s W j l m p q i => by obtain ⟨x5_0, d5, p5_0⟩ := (l 5 rfl); exact opv (v := x5_0) rfl rfl (by simp [go_sem, i.e 64 d5]) p5_0,
  fun f s W j l m p q i => by obtain ⟨x5_0, d5, p5_0⟩ := (l 5 rfl); exact opv rfl rfl (by simp [go_sem, i.e 64 d5]) rfl,
  fun f s W j l m p q i => opv (v := (f 6)) rfl rfl (by simp [go_sem, (i.at' 70 rfl : q.tmps[70]?.getD undef = f 6)] <;> rfl) (l 6 rfl),
  fun f s W j l m p q i => opv rfl rfl (by simp [go_sem, i.e 71 (l 7 rfl)]) rfl, trivial⟩ ?_
 intro f13 s13 W13 hB13 g13 hg13
 have fB13 := hB13.f fB12
 have z13 := hB13.below.size
 have b13_0 := hB13.b b12_0
 have b13_1 := hB13.b b12_1
 have q210' := (q155'.bw hB13)
 have q211' := (hB13.lt q156')
 have q212' := (q157'.bw hB13)
 have q213' := (hB13.lt q158')
 have q214' := (q159'.bw hB13)
 have q215' := (hB13.lt q160')
 have q216' := (q161'.bw hB13)
 have q217' := (hB13.lt q162')
 have q218' := (q163'.bw hB13)
 have q219' := (hB13.lt q164')
 have q220' := (q168'.bw hB13)
 have q221' := (hB13.lt q169')
 have q222' := (q173'.bw hB13)
 have q223' := (hB13.lt q174')
 obtain ⟨a224', o225', c226', r13_8, q227', q228'⟩ := hB13.is 8
 refine hK8 _ _ ?_
 have k13_0 := kt hg13 0 k12_0
 have k13_1 := kt hg13 1 k12_1
 have k13_2 := kt hg13 2 k12_2
 have k13_3 := kt hg13 3 k12_3
 have k13_4 := kt hg13 4 k12_4
 have k13_5 := kt hg13 5 k12_5
 have k13_6 := kt hg13 6 k12_6
 have k13_7 := kt hg13 7 k12_7
 have k13_9 := kt hg13 9 k12_9
 have k13_10 := kt hg13 10 k12_10
 have k13_11 := kt hg13 11 k12_11
 have k13_12 := kt hg13 12 k12_12
 have k13_13 := kt hg13 13 k12_13
 have k13_14 := kt hg13 14 k12_14
 have k13_15 := kt hg13 15 k12_15
 have k13_16 := kt hg13 16 k12_16
 have k13_17 := kt hg13 17 r13_8
 have k13_18 := kt hg13 18 (hB13.is 9)
 refine wp_seq_k fun K9 hK9 => ?_
 refine region_dk 11 [(73, 0), (74, 1), (75, 2), (76, 3), (72, 4), (77, 5), (78, 6), (79, 7), (19, 8), (20, 9), (21, 10)] [[], [0], [], [0, 1, 2], [0, 1, 2, 3], [0, 1, 2, 3, 4], [0, 1, 2, 3, 4], [0, 1, 2, 3, 4], [0, 1, 2, 3, 4, 5], [0, 1, 2, 3, 4, 5, 6, 8], [0, 1, 2, 3, 4, 5, 6, 7, 8, 9]] (rel [fun v s W => NwBlk (s 0) ((boxOf 304 204)) v W,
   is (.agg #[.int .i64 3000, .int .i64 4000]),
   row 2 3 #[.int .i64 200, .int .i64 300, .int .i64 201] 3,
   is (.tuple #[.bool false, .bool true, .int .i64 0]),
   is (.tuple #[.bool false, .bool true, .int .i64 0]),
   is (.bool false),
   is (.bool true),
   is (.int .i64 0),
   is (.bool false),
   is (.bool true),
   is (.int .i64 0)])
  ⟨⟨fun v k W W' hb h => h.below hb, fun v s s' W e h => by have h' : NwBlk (s 0) ((boxOf 304 204)) v W := h; show NwBlk (s' 0) ((boxOf 304 204)) v W; rw [← e 0 (by simp)]; exact h'⟩, is_k, row_k, is_k, is_k, is_k, is_k, is_k, is_k, is_k, is_k, trivial⟩
  ⟨fun f s W j l m p q i => opDo_call rfl rfl (by simp [go_sem]) (box_any 304 204 W) (fun e W' h => by obtain ⟨v, e1, h1, h2⟩ := h; exact ⟨v, e1, h2, (show NwBlk (upd s 0 W.heap.size 0) ((boxOf 304 204)) v W' from by rw [upd_at]; exact h1)⟩),
  fun f s W j l m p q i => opc rfl rfl (by simp [go_sem]) (span_any 3000 4000 W),
  fun f s W j l m p q i => opr rfl rfl (by simp [go_sem]),
  fun f s W j l m p q i => by obtain ⟨g229', c232', g230', c233', g231', c234', d0, ⟨q235', q237', q236'⟩, ⟨q238', q240', q239'⟩, ⟨q241', q243', q242'⟩⟩ := (l 0 rfl); exact opDo_call (args := #[.agg #[.int .i64 ((boxOf 304 204).tab), .slice (some ⟨g229', 0, none⟩) ((boxOf 304 204).panels.length) (c232'), .int .i64 ((boxOf 304 204).height), .slice (some ⟨g230', 0, none⟩) ((boxOf 304 204).top.length) (c233'), .slice (some ⟨g231', 0, none⟩) ((boxOf 304 204).bottom.length) (c234'), .int .i64 ((boxOf 304 204).slot), .bool ((boxOf 304 204).isOpen)], .agg #[.int .i64 3000, .int .i64 4000], .slice (some ⟨(s 2), 0, none⟩) (3) (3)]) rfl rfl (by simp [go_sem, i.e 73 d0, i.e 74 (l 1 rfl), i.e 75 (l 2 rfl).1]) (holds_any _ (boxOf 304 204) 3000 4000 _ _ _ [200, 300, 201] W ⟨_, _, _, _, _, _, _, _, _, rfl, q235', q238', q241'⟩ (ii_block (xs := [200, 300, 201]) (l 2 rfl).2 rfl rfl)) ((fun e W' h => ⟨_, h.1, h.2, by show (Value.tuple #[.bool (if holdsErr (boxOf 304 204) (3000, 4000) [200, 300, 201] = 0 then fitsOf (boxOf 304 204) 4000 [200, 300, 201] else false), .bool (if holdsErr (boxOf 304 204) (3000, 4000) [200, 300, 201] = 0 then fitsOf (boxOf 304 204) 3000 [200, 300, 201] else false), .int .i64 (holdsErr (boxOf 304 204) (3000, 4000) [200, 300, 201])]) = _; rw [kv_holds.1, if_pos rfl, if_pos rfl, kv_holds.2.1, kv_holds.2.2]⟩)),
  fun f s W j l m p q i => opv rfl rfl (by simp [go_sem, i.e 76 (l 3 rfl)]) rfl,
  fun f s W j l m p q i => opv rfl rfl (by simp [go_sem, i.e 72 (l 4 rfl)]) rfl,
  fun f s W j l m p q i => opv rfl rfl (by simp [go_sem, i.e 72 (l 4 rfl)]) rfl,
  fun f s W j l m p q i => opv rfl rfl (by simp [go_sem, i.e 72 (l 4 rfl)]) rfl,
  fun f s W j l m p q i => opv rfl rfl (by simp [go_sem, i.e 77 (l 5 rfl)]) rfl,
  fun f s W j l m p q i => opv rfl rfl (by simp [go_sem, i.e 78 (l 6 rfl)]) rfl,
  fun f s W j l m p q i => opv rfl rfl (by simp [go_sem, i.e 79 (l 7 rfl)]) rfl, trivial⟩ ?_
 intro f14 s14 W14 hB14 g14 hg14
 have fB14 := hB14.f fB13
 have z14 := hB14.below.size
 have b14_0 := hB14.b b13_0
 have b14_1 := hB14.b b13_1
 have q244' := (q210'.bw hB14)
 have q245' := (hB14.lt q211')
 have q246' := (q212'.bw hB14)
 have q247' := (hB14.lt q213')
 have q248' := (q214'.bw hB14)
 have q249' := (hB14.lt q215')
 have q250' := (q216'.bw hB14)
 have q251' := (hB14.lt q217')
 have q252' := (q218'.bw hB14)
 have q253' := (hB14.lt q219')
 have q254' := (q220'.bw hB14)
 have q255' := (hB14.lt q221')
 have q256' := (q222'.bw hB14)
 have q257' := (hB14.lt q223')
 have q258' := (q227'.bw hB14)
 have q259' := (hB14.lt q228')
 obtain ⟨r14_2, br14_2⟩ := hB14.is 2
 have lr14_2 := hB14.lr 2 br14_2
 refine hK9 _ _ ?_
 have k14_0 := kt hg14 0 k13_0
 have k14_1 := kt hg14 1 k13_1
 have k14_2 := kt hg14 2 k13_2
 have k14_3 := kt hg14 3 k13_3
 have k14_4 := kt hg14 4 k13_4
 have k14_5 := kt hg14 5 k13_5
 have k14_6 := kt hg14 6 k13_6
 have k14_7 := kt hg14 7 k13_7
 have k14_9 := kt hg14 9 k13_9
 have k14_10 := kt hg14 10 k13_10
 have k14_11 := kt hg14 11 k13_11
 have k14_12 := kt hg14 12 k13_12
 have k14_13 := kt hg14 13 k13_13
 have k14_14 := kt hg14 14 k13_14
 have k14_15 := kt hg14 15 k13_15
 have k14_16 := kt hg14 16 k13_16
 have k14_17 := kt hg14 17 k13_17
 have k14_18 := kt hg14 18 k13_18
 have k14_19 := kt hg14 19 (hB14.is 8)
 have k14_20 := kt hg14 20 (hB14.is 9)
 have k14_21 := kt hg14 21 (hB14.is 10)
 refine wp_seq_k fun K10 hK10 => ?_
 refine region_dk 9 [(81, 0), (82, 1), (83, 2), (84, 3), (80, 4), (85, 5), (86, 6), (22, 7), (23, 8)] [[], [0], [0, 1], [0, 1, 2], [0, 1, 2, 3], [0, 1, 2, 3, 4], [0, 1, 2, 3, 4], [0, 1, 2, 3, 4, 5], [0, 1, 2, 3, 4, 5, 6, 7]] (rel [fun v s W => NwBlk (s 0) ((boxOf 304 204)) v W,
   is (.agg #[.int .i64 300, .int .i64 301, .int .i64 200, .int .i64 201, .int .i64 200, .int .i64 202, .int .i64 (-3), .int .i64 0, .int .i64 0, .int .i64 200, .bool false]),
   is (.agg #[.int .i64 2500, .int .i64 4500]),
   is (.tuple #[.int .i64 3000, .int .i64 0]),
   is (.tuple #[.int .i64 3000, .int .i64 0]),
   is (.int .i64 3000),
   is (.int .i64 0),
   is (.int .i64 3000),
   is (.int .i64 0)])
  ⟨⟨fun v k W W' hb h => h.below hb, fun v s s' W e h => by have h' : NwBlk (s 0) ((boxOf 304 204)) v W := h; show NwBlk (s' 0) ((boxOf 304 204)) v W; rw [← e 0 (by simp)]; exact h'⟩, is_k, is_k, is_k, is_k, is_k, is_k, is_k, is_k, trivial⟩
  ⟨fun f s W j l m p q i => opDo_call rfl rfl (by simp [go_sem]) (box_any 304 204 W) (fun e W' h => by obtain ⟨v, e1, h1, h2⟩ := h; exact ⟨v, e1, h2, (show NwBlk (upd s 0 W.heap.size 0) ((boxOf 304 204)) v W' from by rw [upd_at]; exact h1)⟩),
  fun f s W j l m p q i => opc rfl rfl (by simp [go_sem]) (wish2_any W),
  fun f s W j l m p q i => opc rfl rfl (by simp [go_sem]) (span_any 2500 4500 W),
  fun f s W j l m p q i => by obtain ⟨g260', c263', g261', c264', g262', c265', d0, ⟨q266', q268', q267'⟩, ⟨q269', q271', q270'⟩, ⟨q272', q274', q273'⟩⟩ := (l 0 rfl); exact opDo_call (args := #[.agg #[.int .i64 ((boxOf 304 204).tab), .slice (some ⟨g260', 0, none⟩) ((boxOf 304 204).panels.length) (c263'), .int .i64 ((boxOf 304 204).height), .slice (some ⟨g261', 0, none⟩) ((boxOf 304 204).top.length) (c264'), .slice (some ⟨g262', 0, none⟩) ((boxOf 304 204).bottom.length) (c265'), .int .i64 ((boxOf 304 204).slot), .bool ((boxOf 304 204).isOpen)], .agg #[.int .i64 300, .int .i64 301, .int .i64 200, .int .i64 201, .int .i64 200, .int .i64 202, .int .i64 (-3), .int .i64 0, .int .i64 0, .int .i64 200, .bool false], .agg #[.int .i64 2500, .int .i64 4500], .int .i64 0]) rfl rfl (by simp [go_sem, i.e 81 d0, i.e 82 (l 1 rfl), i.e 83 (l 2 rfl)]) (may_false 300 301 200 201 200 202 (-3) 0 0 200 2500 4500 0 false 304 204 304 204 101 101 101 101 35 208 6 g260' 0 c263' g262' 0 c265' g261' 0 c264' W (wish_in (by kernel_rfl)) q266' q272' q269' (by decide) (by decide) (by decide) (by decide) (by decide) (by decide) (by decide) (by decide) (by decide) (by decide) (by decide) (by decide) (by decide) (by decide) (by decide) (by decide) (by decide) (by kernel_rfl) (by kernel_rfl) rfl) ((fun e W' h => ⟨_, h.1, h.2, by show (Value.tuple #[.int .i64 (mayOf (boxOf 304 204) wishB 2500 4500 0).1, .int .i64 (mayOf (boxOf 304 204) wishB 2500 4500 0).2]) = _; rw [kv_may]⟩)),
  fun f s W j l m p q i => opv rfl rfl (by simp [go_sem, i.e 84 (l 3 rfl)]) rfl,
  fun f s W j l m p q i => opv rfl rfl (by simp [go_sem, i.e 80 (l 4 rfl)]) rfl,
  fun f s W j l m p q i => opv rfl rfl (by simp [go_sem, i.e 80 (l 4 rfl)]) rfl,
  fun f s W j l m p q i => opv rfl rfl (by simp [go_sem, i.e 85 (l 5 rfl)]) rfl,
  fun f s W j l m p q i => opv rfl rfl (by simp [go_sem, i.e 86 (l 6 rfl)]) rfl, trivial⟩ ?_
 intro f15 s15 W15 hB15 g15 hg15
 have fB15 := hB15.f fB14
 have z15 := hB15.below.size
 have b15_0 := hB15.b b14_0
 have b15_1 := hB15.b b14_1
 have b15_2 := hB15.b br14_2
 have q275' := (q244'.bw hB15)
 have q276' := (hB15.lt q245')
 have q277' := (q246'.bw hB15)
 have q278' := (hB15.lt q247')
 have q279' := (q248'.bw hB15)
 have q280' := (hB15.lt q249')
 have q281' := (q250'.bw hB15)
 have q282' := (hB15.lt q251')
 have q283' := (q252'.bw hB15)
 have q284' := (hB15.lt q253')
 have q285' := (q254'.bw hB15)
 have q286' := (hB15.lt q255')
 have q287' := (q256'.bw hB15)
 have q288' := (hB15.lt q257')
 have q289' := (q258'.bw hB15)
 have q290' := (hB15.lt q259')
 refine hK10 _ _ ?_
 have k15_0 := kt hg15 0 k14_0
 have k15_1 := kt hg15 1 k14_1
 have k15_2 := kt hg15 2 k14_2
 have k15_3 := kt hg15 3 k14_3
 have k15_4 := kt hg15 4 k14_4
 have k15_5 := kt hg15 5 k14_5
 have k15_6 := kt hg15 6 k14_6
 have k15_7 := kt hg15 7 k14_7
 have k15_9 := kt hg15 9 k14_9
 have k15_10 := kt hg15 10 k14_10
 have k15_11 := kt hg15 11 k14_11
 have k15_12 := kt hg15 12 k14_12
 have k15_13 := kt hg15 13 k14_13
 have k15_14 := kt hg15 14 k14_14
 have k15_15 := kt hg15 15 k14_15
 have k15_16 := kt hg15 16 k14_16
 have k15_17 := kt hg15 17 k14_17
 have k15_18 := kt hg15 18 k14_18
 have k15_19 := kt hg15 19 k14_19
 have k15_20 := kt hg15 20 k14_20
 have k15_21 := kt hg15 21 k14_21
 have k15_22 := kt hg15 22 (hB15.is 7)
 have k15_23 := kt hg15 23 (hB15.is 8)
 refine wp_seq_k fun K11 hK11 => ?_
 refine wp_seq_k fun K12 hK12 => ?_
 refine region_dk 49 [(87, 0), (88, 1), (89, 2), (90, 3), (91, 4), (92, 5), (93, 6), (94, 7), (95, 8), (96, 9), (97, 10), (98, 11), (99, 12), (100, 13), (101, 14), (102, 15), (103, 16), (104, 17), (105, 18), (106, 19), (107, 20), (108, 21), (109, 22), (110, 23), (111, 24), (112, 25), (113, 26), (114, 27), (115, 28), (116, 29), (117, 30), (118, 31), (119, 32), (120, 33), (121, 34), (122, 35), (123, 36), (124, 37), (125, 38), (126, 39), (127, 40), (128, 41), (129, 42), (130, 43), (131, 44), (132, 45), (133, 46), (134, 47), (135, 48)] [[], [0], [0, 1], [0, 1, 2], [0, 1, 2, 3], [0, 1, 2, 3, 4], [0, 1, 2, 3, 4, 5], [0, 1, 2, 3, 4, 5, 6], [0, 1, 2, 3, 4, 5, 6, 7], [0, 1, 2, 3, 4, 5, 6, 7, 8], [0, 1, 2, 3, 4, 5, 6, 7, 8, 9], [0, 1, 2, 3, 4, 5, 6, 7, 8, 9, 10], [0, 1, 2, 3, 4, 5, 6, 7, 8, 9, 10, 11], [0, 1, 2, 3, 4, 5, 6, 7, 8, 9, 10, 11, 12], [0, 1, 2, 3, 4, 5, 6, 7, 8, 9, 10, 11, 12, 13], [0, 1, 2, 3, 4, 5, 6, 7, 8, 9, 10, 11, 12, 13, 14], [0, 1, 2, 3, 4, 5, 6, 7, 8, 9, 10, 11, 12, 13, 14, 15], [0, 1, 2, 3, 4, 5, 6, 7, 8, 9, 10, 11, 12, 13, 14, 15, 16], [0, 1, 2, 3, 4, 5, 6, 7, 8, 9, 10, 11, 12, 13, 14, 15, 16, 17], [0, 1, 2, 3, 4, 5, 6, 7, 8, 9, 10, 11, 12, 13, 14, 15, 16, 17, 18], [0, 1, 2, 3, 4, 5, 6, 7, 8, 9, 10, 11, 12, 13, 14, 15, 16, 17, 18, 19], [0, 1, 2, 3, 4, 5, 6, 7, 8, 9, 10, 11, 12, 13, 14, 15, 16, 17, 18, 19, 20], [0, 1, 2, 3, 4, 5, 6, 7, 8, 9, 10, 11, 12, 13, 14, 15, 16, 17, 18, 19, 20, 21], [0, 1, 2, 3, 4, 5, 6, 7, 8, 9, 10, 11, 12, 13, 14, 15, 16, 17, 18, 19, 20, 21, 22], [0, 1, 2, 3, 4, 5, 6, 7, 8, 9, 10, 11, 12, 13, 14, 15, 16, 17, 18, 19, 20, 21, 22, 23], [0, 1, 2, 3, 4, 5, 6, 7, 8, 9, 10, 11, 12, 13, 14, 15, 16, 17, 18, 19, 20, 21, 22, 23, 24], [0, 1, 2, 3, 4, 5, 6, 7, 8, 9, 10, 11, 12, 13, 14, 15, 16, 17, 18, 19, 20, 21, 22, 23, 24, 25], [0, 1, 2, 3, 4, 5, 6, 7, 8, 9, 10, 11, 12, 13, 14, 15, 16, 17, 18, 19, 20, 21, 22, 23, 24, 25, 26], [0, 1, 2, 3, 4, 5, 6, 7, 8, 9, 10, 11, 12, 13, 14, 15, 16, 17, 18, 19, 20, 21, 22, 23, 24, 25, 26, 27], [0, 1, 2, 3, 4, 5, 6, 7, 8, 9, 10, 11, 12, 13, 14, 15, 16, 17, 18, 19, 20, 21, 22, 23, 24, 25, 26, 27, 28], [0, 1, 2, 3, 4, 5, 6, 7, 8, 9, 10, 11, 12, 13, 14, 15, 16, 17, 18, 19, 20, 21, 22, 23, 24, 25, 26, 27, 28, 29], [0, 1, 2, 3, 4, 5, 6, 7, 8, 9, 10, 11, 12, 13, 14, 15, 16, 17, 18, 19, 20, 21, 22, 23, 24, 25, 26, 27, 28, 29, 30], [0, 1, 2, 3, 4, 5, 6, 7, 8, 9, 10, 11, 12, 13, 14, 15, 16, 17, 18, 19, 20, 21, 22, 23, 24, 25, 26, 27, 28, 29, 30, 31], [0, 1, 2, 3, 4, 5, 6, 7, 8, 9, 10, 11, 12, 13, 14, 15, 16, 17, 18, 19, 20, 21, 22, 23, 24, 25, 26, 27, 28, 29, 30, 31, 32], [0, 1, 2, 3, 4, 5, 6, 7, 8, 9, 10, 11, 12, 13, 14, 15, 16, 17, 18, 19, 20, 21, 22, 23, 24, 25, 26, 27, 28, 29, 30, 31, 32, 33], [0, 1, 2, 3, 4, 5, 6, 7, 8, 9, 10, 11, 12, 13, 14, 15, 16, 17, 18, 19, 20, 21, 22, 23, 24, 25, 26, 27, 28, 29, 30, 31, 32, 33, 34], [0, 1, 2, 3, 4, 5, 6, 7, 8, 9, 10, 11, 12, 13, 14, 15, 16, 17, 18, 19, 20, 21, 22, 23, 24, 25, 26, 27, 28, 29, 30, 31, 32, 33, 34, 35], [0, 1, 2, 3, 4, 5, 6, 7, 8, 9, 10, 11, 12, 13, 14, 15, 16, 17, 18, 19, 20, 21, 22, 23, 24, 25, 26, 27, 28, 29, 30, 31, 32, 33, 34, 35, 36], [0, 1, 2, 3, 4, 5, 6, 7, 8, 9, 10, 11, 12, 13, 14, 15, 16, 17, 18, 19, 20, 21, 22, 23, 24, 25, 26, 27, 28, 29, 30, 31, 32, 33, 34, 35, 36, 37], [0, 1, 2, 3, 4, 5, 6, 7, 8, 9, 10, 11, 12, 13, 14, 15, 16, 17, 18, 19, 20, 21, 22, 23, 24, 25, 26, 27, 28, 29, 30, 31, 32, 33, 34, 35, 36, 37, 38], [0, 1, 2, 3, 4, 5, 6, 7, 8, 9, 10, 11, 12, 13, 14, 15, 16, 17, 18, 19, 20, 21, 22, 23, 24, 25, 26, 27, 28, 29, 30, 31, 32, 33, 34, 35, 36, 37, 38, 39], [0, 1, 2, 3, 4, 5, 6, 7, 8, 9, 10, 11, 12, 13, 14, 15, 16, 17, 18, 19, 20, 21, 22, 23, 24, 25, 26, 27, 28, 29, 30, 31, 32, 33, 34, 35, 36, 37, 38, 39, 40], [0, 1, 2, 3, 4, 5, 6, 7, 8, 9, 10, 11, 12, 13, 14, 15, 16, 17, 18, 19, 20, 21, 22, 23, 24, 25, 26, 27, 28, 29, 30, 31, 32, 33, 34, 35, 36, 37, 38, 39, 40, 41], [0, 1, 2, 3, 4, 5, 6, 7, 8, 9, 10, 11, 12, 13, 14, 15, 16, 17, 18, 19, 20, 21, 22, 23, 24, 25, 26, 27, 28, 29, 30, 31, 32, 33, 34, 35, 36, 37, 38, 39, 40, 41, 42], [0, 1, 2, 3, 4, 5, 6, 7, 8, 9, 10, 11, 12, 13, 14, 15, 16, 17, 18, 19, 20, 21, 22, 23, 24, 25, 26, 27, 28, 29, 30, 31, 32, 33, 34, 35, 36, 37, 38, 39, 40, 41, 42, 43], [0, 1, 2, 3, 4, 5, 6, 7, 8, 9, 10, 11, 12, 13, 14, 15, 16, 17, 18, 19, 20, 21, 22, 23, 24, 25, 26, 27, 28, 29, 30, 31, 32, 33, 34, 35, 36, 37, 38, 39, 40, 41, 42, 43, 44], [0, 1, 2, 3, 4, 5, 6, 7, 8, 9, 10, 11, 12, 13, 14, 15, 16, 17, 18, 19, 20, 21, 22, 23, 24, 25, 26, 27, 28, 29, 30, 31, 32, 33, 34, 35, 36, 37, 38, 39, 40, 41, 42, 43, 44, 45], [0, 1, 2, 3, 4, 5, 6, 7, 8, 9, 10, 11, 12, 13, 14, 15, 16, 17, 18, 19, 20, 21, 22, 23, 24, 25, 26, 27, 28, 29, 30, 31, 32, 33, 34, 35, 36, 37, 38, 39, 40, 41, 42, 43, 44, 45, 46], [0, 1, 2, 3, 4, 5, 6, 7, 8, 9, 10, 11, 12, 13, 14, 15, 16, 17, 18, 19, 20, 21, 22, 23, 24, 25, 26, 27, 28, 29, 30, 31, 32, 33, 34, 35, 36, 37, 38, 39, 40, 41, 42, 43, 44, 45, 46, 47]] (rel [is (.int .i64 0),
   is (.bool false),
   is (.bool false),
   gd (false) false (is (.int .i64 0)),
   gd (false) false (is (.bool false)),
   is (.bool false),
   is (.bool false),
   gd (false) false (is (.int .i64 0)),
   gd (false) false (is (.bool false)),
   is (.bool false),
   is (.bool false),
   gd (false) false (is (.int .i64 0)),
   gd (false) false (is (.bool false)),
   is (.bool false),
   is (.bool false),
   gd (false) false (is (.int .i64 0)),
   gd (false) false (is (.bool false)),
   is (.bool false),
   is (.bool false),
   gd (false) false (is (.int .i64 0)),
   gd (false) false (is (.bool false)),
   is (.bool false),
   is (.bool false),
   gd (false) false (is (.int .i64 0)),
   gd (false) false (is (.bool false)),
   is (.bool false),
   is (.bool false),
   gd (false) false (is (.int .i64 0)),
   gd (false) false (is (.bool false)),
   is (.bool false),
   is (.bool false),
   gd (false) false (is (.int .i64 0)),
   gd (false) false (is (.bool false)),
   is (.bool false),
   is (.bool false),
   gd (false) false (is (.slice (some ⟨a21', o22', none⟩) (9) (c23'))),
   gd (false) false (is (.int .i64 9)),
   gd (false) false (is (.bool false)),
   is (.bool false),
   is (.bool false),
   gd (false) false (is (.slice (some ⟨a48', o49', none⟩) (5) (c50'))),
   gd (false) false (is (.int .i64 5)),
   gd (false) false (is (.bool false)),
   is (.bool false),
   is (.bool false),
   gd (false) false (is (.slice (some ⟨a224', o225', none⟩) (4) (c226'))),
   gd (false) false (is (.int .i64 4)),
   gd (false) false (is (.bool false)),
   is (.bool false)])
  ⟨is_k, is_k, is_k, gd_k (is_k), gd_k (is_k), is_k, is_k, gd_k (is_k), gd_k (is_k), is_k, is_k, gd_k (is_k), gd_k (is_k), is_k, is_k, gd_k (is_k), gd_k (is_k), is_k, is_k, gd_k (is_k), gd_k (is_k), is_k, is_k, gd_k (is_k), gd_k (is_k), is_k, is_k, gd_k (is_k), gd_k (is_k), is_k, is_k, gd_k (is_k), gd_k (is_k), is_k, is_k, gd_k (is_k), gd_k (is_k), gd_k (is_k), is_k, is_k, gd_k (is_k), gd_k (is_k), gd_k (is_k), is_k, is_k, gd_k (is_k), gd_k (is_k), gd_k (is_k), is_k, trivial⟩
  ⟨fun f s W j l m p q i => opv rfl rfl (by simp [go_sem, i.e 2 k15_2]) rfl,
  fun f s W j l m p q i => opv rfl rfl (by simp [go_sem, i.e 87 (l 0 rfl)]) rfl,
  fun f s W j l m p q i => opv rfl rfl (by simp [go_sem, i.e 88 (l 1 rfl)]) rfl,
  fun f s W j l m p q i => gdo rfl rfl (i.says (d := 89) rfl rfl (l 2 rfl)) fun hgd0 => gv (by simp [go_sem, i.e 4 k15_4]) rfl,
  fun f s W j l m p q i => gdo rfl rfl (i.says (d := 89) rfl rfl (l 2 rfl)) fun hgd0 => gv (by simp [go_sem, i.e 90 ((l 3 rfl).1 hgd0)]) rfl,
  fun f s W j l m p q i => opk (c := false) rfl rfl (fun _ => by simp [go_sem, i.e 89 (l 2 rfl), i.e 91 ((l 4 rfl).1 rfl)]) (fun h => absurd h (by decide)),
  fun f s W j l m p q i => opv rfl rfl (by simp [go_sem, i.e 92 (l 5 rfl)]) rfl,
  fun f s W j l m p q i => gdo rfl rfl (i.says (d := 93) rfl rfl (l 6 rfl)) fun hgd0 => gv (by simp [go_sem, i.e 6 k15_6]) rfl,
  fun f s W j l m p q i => gdo rfl rfl (i.says (d := 93) rfl rfl (l 6 rfl)) fun hgd0 => gv (by simp [go_sem, i.e 94 ((l 7 rfl).1 hgd0)]) rfl,
  fun f s W j l m p q i => opk (c := false) rfl rfl (fun _ => by simp [go_sem, i.e 93 (l 6 rfl), i.e 95 ((l 8 rfl).1 rfl)]) (fun h => absurd h (by decide)),
  fun f s W j l m p q i => opv rfl rfl (by simp [go_sem, i.e 96 (l 9 rfl)]) rfl,
  fun f s W j l m p q i => gdo rfl rfl (i.says (d := 97) rfl rfl (l 10 rfl)) fun hgd0 => gv (by simp [go_sem, i.e 9 k15_9]) rfl,
  fun f s W j l m p q i => gdo rfl rfl (i.says (d := 97) rfl rfl (l 10 rfl)) fun hgd0 => gv (by simp [go_sem, i.e 98 ((l 11 rfl).1 hgd0)]) rfl,
  fun f s W j l m p q i => opk (c := false) rfl rfl (fun _ => by simp [go_sem, i.e 97 (l 10 rfl), i.e 99 ((l 12 rfl).1 rfl)]) (fun h => absurd h (by decide)),
  fun f s W j l m p q i => opv rfl rfl (by simp [go_sem, i.e 100 (l 13 rfl)]) rfl,
  fun f s W j l m p q i => gdo rfl rfl (i.says (d := 101) rfl rfl (l 14 rfl)) fun hgd0 => gv (by simp [go_sem, i.e 13 k15_13]) rfl,
  fun f s W j l m p q i => gdo rfl rfl (i.says (d := 101) rfl rfl (l 14 rfl)) fun hgd0 => gv (by simp [go_sem, i.e 102 ((l 15 rfl).1 hgd0)]) rfl,
  fun f s W j l m p q i => opk (c := false) rfl rfl (fun _ => by simp [go_sem, i.e 101 (l 14 rfl), i.e 103 ((l 16 rfl).1 rfl)]) (fun h => absurd h (by decide)),
  fun f s W j l m p q i => opv rfl rfl (by simp [go_sem, i.e 104 (l 17 rfl)]) rfl,
  fun f s W j l m p q i => gdo rfl rfl (i.says (d := 105) rfl rfl (l 18 rfl)) fun hgd0 => gv (by simp [go_sem, i.e 16 k15_16]) rfl,
  fun f s W j l m p q i => gdo rfl rfl (i.says (d := 105) rfl rfl (l 18 rfl)) fun hgd0 => gv (by simp [go_sem, i.e 106 ((l 19 rfl).1 hgd0)]) rfl,
  fun f s W j l m p q i => opk (c := false) rfl rfl (fun _ => by simp [go_sem, i.e 105 (l 18 rfl), i.e 107 ((l 20 rfl).1 rfl)]) (fun h => absurd h (by decide)),
  fun f s W j l m p q i => opv rfl rfl (by simp [go_sem, i.e 108 (l 21 rfl)]) rfl,
  fun f s W j l m p q i => gdo rfl rfl (i.says (d := 109) rfl rfl (l 22 rfl)) fun hgd0 => gv (by simp [go_sem, i.e 18 k15_18]) rfl,
  fun f s W j l m p q i => gdo rfl rfl (i.says (d := 109) rfl rfl (l 22 rfl)) fun hgd0 => gv (by simp [go_sem, i.e 110 ((l 23 rfl).1 hgd0)]) rfl,
  fun f s W j l m p q i => opk (c := false) rfl rfl (fun _ => by simp [go_sem, i.e 109 (l 22 rfl), i.e 111 ((l 24 rfl).1 rfl)]) (fun h => absurd h (by decide)),
  fun f s W j l m p q i => opv rfl rfl (by simp [go_sem, i.e 112 (l 25 rfl)]) rfl,
  fun f s W j l m p q i => gdo rfl rfl (i.says (d := 113) rfl rfl (l 26 rfl)) fun hgd0 => gv (by simp [go_sem, i.e 21 k15_21]) rfl,
  fun f s W j l m p q i => gdo rfl rfl (i.says (d := 113) rfl rfl (l 26 rfl)) fun hgd0 => gv (by simp [go_sem, i.e 114 ((l 27 rfl).1 hgd0)]) rfl,
  fun f s W j l m p q i => opk (c := false) rfl rfl (fun _ => by simp [go_sem, i.e 113 (l 26 rfl), i.e 115 ((l 28 rfl).1 rfl)]) (fun h => absurd h (by decide)),
  fun f s W j l m p q i => opv rfl rfl (by simp [go_sem, i.e 116 (l 29 rfl)]) rfl,
  fun f s W j l m p q i => gdo rfl rfl (i.says (d := 117) rfl rfl (l 30 rfl)) fun hgd0 => gv (by simp [go_sem, i.e 23 k15_23]) rfl,
  fun f s W j l m p q i => gdo rfl rfl (i.says (d := 117) rfl rfl (l 30 rfl)) fun hgd0 => gv (by simp [go_sem, i.e 118 ((l 31 rfl).1 hgd0)]) rfl,
  fun f s W j l m p q i => opk (c := false) rfl rfl (fun _ => by simp [go_sem, i.e 117 (l 30 rfl), i.e 119 ((l 32 rfl).1 rfl)]) (fun h => absurd h (by decide)),
  fun f s W j l m p q i => opv rfl rfl (by simp [go_sem, i.e 120 (l 33 rfl)]) rfl,
  fun f s W j l m p q i => gdo rfl rfl (i.says (d := 121) rfl rfl (l 34 rfl)) fun hgd0 => gv (by simp [go_sem, i.e 1 k15_1]) rfl,
  fun f s W j l m p q i => gdo rfl rfl (i.says (d := 121) rfl rfl (l 34 rfl)) fun hgd0 => gv (by simp [go_sem, i.e 122 ((l 35 rfl).1 hgd0)]) rfl,
  fun f s W j l m p q i => gdo rfl rfl (i.says (d := 121) rfl rfl (l 34 rfl)) fun hgd0 => gv (by simp [go_sem, i.e 123 ((l 36 rfl).1 hgd0)]) rfl,
  fun f s W j l m p q i => opk (c := false) rfl rfl (fun _ => by simp [go_sem, i.e 121 (l 34 rfl), i.e 124 ((l 37 rfl).1 rfl)]) (fun h => absurd h (by decide)),
  fun f s W j l m p q i => opv rfl rfl (by simp [go_sem, i.e 125 (l 38 rfl)]) rfl,
  fun f s W j l m p q i => gdo rfl rfl (i.says (d := 126) rfl rfl (l 39 rfl)) fun hgd0 => gv (by simp [go_sem, i.e 3 k15_3]) rfl,
  fun f s W j l m p q i => gdo rfl rfl (i.says (d := 126) rfl rfl (l 39 rfl)) fun hgd0 => gv (by simp [go_sem, i.e 127 ((l 40 rfl).1 hgd0)]) rfl,
  fun f s W j l m p q i => gdo rfl rfl (i.says (d := 126) rfl rfl (l 39 rfl)) fun hgd0 => gv (by simp [go_sem, i.e 128 ((l 41 rfl).1 hgd0)]) rfl,
  fun f s W j l m p q i => opk (c := false) rfl rfl (fun _ => by simp [go_sem, i.e 126 (l 39 rfl), i.e 129 ((l 42 rfl).1 rfl)]) (fun h => absurd h (by decide)),
  fun f s W j l m p q i => opv rfl rfl (by simp [go_sem, i.e 130 (l 43 rfl)]) rfl,
  fun f s W j l m p q i => gdo rfl rfl (i.says (d := 131) rfl rfl (l 44 rfl)) fun hgd0 => gv (by simp [go_sem, i.e 17 k15_17]) rfl,
  fun f s W j l m p q i => gdo rfl rfl (i.says (d := 131) rfl rfl (l 44 rfl)) fun hgd0 => gv (by simp [go_sem, i.e 132 ((l 45 rfl).1 hgd0)]) rfl,
  fun f s W j l m p q i => gdo rfl rfl (i.says (d := 131) rfl rfl (l 44 rfl)) fun hgd0 => gv (by simp [go_sem, i.e 133 ((l 46 rfl).1 hgd0)]) rfl,
  fun f s W j l m p q i => opk (c := false) rfl rfl (fun _ => by simp [go_sem, i.e 131 (l 44 rfl), i.e 134 ((l 47 rfl).1 rfl)]) (fun h => absurd h (by decide)), trivial⟩ ?_
 intro f16 s16 W16 hB16 g16 hg16
 have fB16 := hB16.f fB15
 have z16 := hB16.below.size
 have b16_0 := hB16.b b15_0
 have b16_1 := hB16.b b15_1
 have b16_2 := hB16.b b15_2
 have q291' := (q275'.bw hB16)
 have q292' := (hB16.lt q276')
 have q293' := (q277'.bw hB16)
 have q294' := (hB16.lt q278')
 have q295' := (q279'.bw hB16)
 have q296' := (hB16.lt q280')
 have q297' := (q281'.bw hB16)
 have q298' := (hB16.lt q282')
 have q299' := (q283'.bw hB16)
 have q300' := (hB16.lt q284')
 have q301' := (q285'.bw hB16)
 have q302' := (hB16.lt q286')
 have q303' := (q287'.bw hB16)
 have q304' := (hB16.lt q288')
 have q305' := (q289'.bw hB16)
 have q306' := (hB16.lt q290')
 refine hK12 _ _ ?_
 have k16_0 := kt hg16 0 k15_0
 have k16_1 := kt hg16 1 k15_1
 have k16_3 := kt hg16 3 k15_3
 have k16_5 := kt hg16 5 k15_5
 have k16_7 := kt hg16 7 k15_7
 have k16_10 := kt hg16 10 k15_10
 have k16_11 := kt hg16 11 k15_11
 have k16_12 := kt hg16 12 k15_12
 have k16_14 := kt hg16 14 k15_14
 have k16_15 := kt hg16 15 k15_15
 have k16_17 := kt hg16 17 k15_17
 have k16_19 := kt hg16 19 k15_19
 have k16_20 := kt hg16 20 k15_20
 have k16_22 := kt hg16 22 k15_22
 have k16_135 := kt hg16 135 (hB16.is 48)
 refine wp_cond_false ((fr_eval rfl).trans k16_135) ?_
 refine wp_skip ?_
 refine hK11 _ _ ?_
 refine wp_seq_k fun K14 hK14 => ?_
 refine wp_seq_k fun K15 hK15 => ?_
 refine region_dk 35 [(136, 0), (137, 1), (138, 2), (139, 3), (140, 4), (141, 5), (142, 6), (143, 7), (144, 8), (145, 9), (146, 10), (147, 11), (148, 12), (149, 13), (150, 14), (151, 15), (152, 16), (153, 17), (154, 18), (155, 19), (156, 20), (157, 21), (158, 22), (159, 23), (160, 24), (161, 25), (162, 26), (163, 27), (164, 28), (165, 29), (166, 30), (167, 31), (168, 32), (169, 33), (170, 34)] [[], [0], [0, 1], [], [0, 1, 2, 3], [0, 1, 2, 3, 4], [0, 1, 2, 3, 4, 5], [0, 1, 2, 3, 4, 5, 6], [0, 1, 2, 3, 4, 5, 6, 7], [0, 1, 2, 3, 4, 5], [0, 1, 2, 3, 4, 5, 6, 7, 8, 9], [0, 1, 2, 3, 4, 5, 6, 7, 8, 9, 10], [0, 1, 2, 3, 4, 5, 6, 7, 8, 9, 10, 11], [0, 1, 2, 3, 4, 5, 6, 7, 8, 9, 10, 11, 12], [0, 1, 2, 3, 4, 5, 6, 7, 8, 9, 10, 11, 12, 13], [0, 1, 2, 3, 4, 5, 6, 7, 8, 9, 10, 11, 12, 13, 14], [0, 1, 2, 3, 4, 5, 6, 7, 8, 9, 10, 11, 12], [0, 1, 2, 3, 4, 5, 6, 7, 8, 9, 10, 11, 12, 13, 14, 15, 16], [0, 1, 2, 3, 4, 5, 6, 7, 8, 9, 10, 11, 12, 13, 14, 15, 16, 17], [0, 1, 2, 3, 4, 5, 6, 7, 8, 9, 10, 11, 12, 13, 14, 15, 16, 17, 18], [0, 1, 2, 3, 4, 5, 6, 7, 8, 9, 10, 11, 12, 13, 14, 15, 16, 17, 18, 19], [0, 1, 2, 3, 4, 5, 6, 7, 8, 9, 10, 11, 12, 13, 14, 15, 16, 17, 18, 19, 20], [0, 1, 2, 3, 4, 5, 6, 7, 8, 9, 10, 11, 12, 13, 14, 15, 16, 17, 18, 19, 20, 21], [0, 1, 2, 3, 4, 5, 6, 7, 8, 9, 10, 11, 12, 13, 14, 15, 16, 17, 18, 19], [0, 1, 2, 3, 4, 5, 6, 7, 8, 9, 10, 11, 12, 13, 14, 15, 16, 17, 18, 19, 20, 21, 22, 23], [0, 1, 2, 3, 4, 5, 6, 7, 8, 9, 10, 11, 12, 13, 14, 15, 16, 17, 18, 19, 20, 21, 22, 23, 24], [0, 1, 2, 3, 4, 5, 6, 7, 8, 9, 10, 11, 12, 13, 14, 15, 16, 17, 18, 19, 20, 21, 22, 23, 24, 25], [0, 1, 2, 3, 4, 5, 6, 7, 8, 9, 10, 11, 12, 13, 14, 15, 16, 17, 18, 19, 20, 21, 22, 23, 24, 25, 26], [0, 1, 2, 3, 4, 5, 6, 7, 8, 9, 10, 11, 12, 13, 14, 15, 16, 17, 18, 19, 20, 21, 22, 23, 24, 25, 26], [0, 1, 2, 3, 4, 5, 6, 7, 8, 9, 10, 11, 12, 13, 14, 15, 16, 17, 18, 19, 20, 21, 22, 23, 24, 25, 26, 27, 28], [0, 1, 2, 3, 4, 5, 6, 7, 8, 9, 10, 11, 12, 13, 14, 15, 16, 17, 18, 19, 20, 21, 22, 23, 24, 25, 26, 27, 28, 29], [0, 1, 2, 3, 4, 5, 6, 7, 8, 9, 10, 11, 12, 13, 14, 15, 16, 17, 18, 19, 20, 21, 22, 23, 24, 25, 26, 27, 28, 29, 30], [0, 1, 2, 3, 4, 5, 6, 7, 8, 9, 10, 11, 12, 13, 14, 15, 16, 17, 18, 19, 20, 21, 22, 23, 24, 25, 26, 27, 28, 29, 30, 31], [0, 1, 2, 3, 4, 5, 6, 7, 8, 9, 10, 11, 12, 13, 14, 15, 16, 17, 18, 19, 20, 21, 22, 23, 24, 25, 26, 27, 28, 29, 30, 31, 32], [0, 1, 2, 3, 4, 5, 6, 7, 8, 9, 10, 11, 12, 13, 14, 15, 16, 17, 18, 19, 20, 21, 22, 23, 24, 25, 26, 27, 28, 29, 30, 31, 32, 33]] (rel [is (.slice (some ⟨a21', o22', none⟩) (9) (c23')),
   is (.pointer (some ⟨a21', o22', none⟩)),
   is (.agg #[.int .i64 300000, .int .i64 301000]),
   is (.agg #[.int .i64 300000, .int .i64 301000]),
   is (.bool false),
   is (.bool false),
   gd (false) false (is (.slice (some ⟨a21', o22', none⟩) (9) (c23'))),
   gd (false) false (is (.pointer (some ⟨a21', o22' + 8, none⟩))),
   gd (false) false (is (.agg #[.int .i64 200000, .int .i64 202000])),
   gd (false) false (is (.agg #[.int .i64 200000, .int .i64 202000])),
   gd (false) false (is (.bool false)),
   is (.bool false),
   is (.bool false),
   gd (false) false (is (.slice (some ⟨a21', o22', none⟩) (9) (c23'))),
   gd (false) false (is (.pointer (some ⟨a21', o22' + 10, none⟩))),
   gd (false) false (is (.agg #[.int .i64 (-2000), .int .i64 (-1000)])),
   gd (false) false (is (.agg #[.int .i64 (-2000), .int .i64 (-1000)])),
   gd (false) false (is (.bool false)),
   is (.bool false),
   is (.bool false),
   gd (false) false (is (.slice (some ⟨a48', o49', none⟩) (5) (c50'))),
   gd (false) false (is (.pointer (some ⟨a48', o49' + 8, none⟩))),
   gd (false) false (is (.agg #[.int .i64 4, .int .i64 2500])),
   gd (false) false (is (.agg #[.int .i64 4, .int .i64 2500])),
   gd (false) false (is (.bool false)),
   is (.bool false),
   is (.bool false),
   gd (false) false (is (.agg #[.int .i64 3000, .int .i64 4000])),
   gd (false) false (is (.agg #[.int .i64 3000, .int .i64 4000])),
   gd (false) false (is (.bool false)),
   is (.bool false),
   is (.bool false),
   gd (false) false (is (.int .i64 3000)),
   gd (false) false (is (.bool false)),
   is (.bool false)])
  ⟨is_k, is_k, is_k, is_k, is_k, is_k, gd_k (is_k), gd_k (is_k), gd_k (is_k), gd_k (is_k), gd_k (is_k), is_k, is_k, gd_k (is_k), gd_k (is_k), gd_k (is_k), gd_k (is_k), gd_k (is_k), is_k, is_k, gd_k (is_k), gd_k (is_k), gd_k (is_k), gd_k (is_k), gd_k (is_k), is_k, is_k, gd_k (is_k), gd_k (is_k), gd_k (is_k), is_k, is_k, gd_k (is_k), gd_k (is_k), is_k, trivial⟩
  ⟨fun f s W j l m p q i => opv rfl rfl (by simp [go_sem, i.e 1 k16_1]) rfl,
  fun f s W j l m p q i => opv rfl rfl (by simp [go_sem, i.e 136 (l 0 rfl)]) rfl,
  fun f s W j l m p q i => by have cu := ppl_cell (q291'.below j (Nat.le_refl _)) 0 rfl; have cx_ : W.cell? ⟨a21', o22', none⟩ = some (.int .i64 (300000)) := cu.1; have cy_ : W.cell? ⟨a21', o22' + 1, none⟩ = some (.int .i64 (301000)) := cu.2; exact opv rfl rfl (by simp [go_sem, i.e 137 (l 1 rfl), cx_, cy_]) rfl,
  fun f s W j l m p q i => opc rfl rfl (by simp [go_sem]) (span_any 300000 301000 W),
  fun f s W j l m p q i => opv rfl rfl (by simp [go_sem, i.e 138 (l 2 rfl), i.e 139 (l 3 rfl)]) rfl,
  fun f s W j l m p q i => opv rfl rfl (by simp [go_sem, i.e 140 (l 4 rfl)]) rfl,
  fun f s W j l m p q i => gdo rfl rfl (i.says (d := 141) rfl rfl (l 5 rfl)) fun hgd0 => gv (by simp [go_sem, i.e 1 k16_1]) rfl,
  fun f s W j l m p q i => gdo rfl rfl (i.says (d := 141) rfl rfl (l 5 rfl)) fun hgd0 => gv (by simp [go_sem, i.e 142 ((l 6 rfl).1 hgd0)]) rfl,
  fun f s W j l m p q i => gdo rfl rfl (i.says (d := 141) rfl rfl (l 5 rfl)) fun hgd0 => by have cu := ppl_cell (q291'.below j (Nat.le_refl _)) 4 rfl; have cx_ : W.cell? ⟨a21', o22' + 8, none⟩ = some (.int .i64 (200000)) := cu.1; have cy_ : W.cell? ⟨a21', o22' + 9, none⟩ = some (.int .i64 (202000)) := cu.2; exact gv (by simp [go_sem, i.e 143 ((l 7 rfl).1 hgd0), cx_, cy_]) rfl,
  fun f s W j l m p q i => gdo rfl rfl (i.says (d := 141) rfl rfl (l 5 rfl)) fun hgd0 => gc (by simp [go_sem]) (span_any 200000 202000 W),
  fun f s W j l m p q i => gdo rfl rfl (i.says (d := 141) rfl rfl (l 5 rfl)) fun hgd0 => gv (by simp [go_sem, i.e 144 ((l 8 rfl).1 hgd0), i.e 145 ((l 9 rfl).1 hgd0)]) rfl,
  fun f s W j l m p q i => opk (c := false) rfl rfl (fun _ => by simp [go_sem, i.e 141 (l 5 rfl), i.e 146 ((l 10 rfl).1 rfl)]) (fun h => absurd h (by decide)),
  fun f s W j l m p q i => opv rfl rfl (by simp [go_sem, i.e 147 (l 11 rfl)]) rfl,
  fun f s W j l m p q i => gdo rfl rfl (i.says (d := 148) rfl rfl (l 12 rfl)) fun hgd0 => gv (by simp [go_sem, i.e 1 k16_1]) rfl,
  fun f s W j l m p q i => gdo rfl rfl (i.says (d := 148) rfl rfl (l 12 rfl)) fun hgd0 => gv (by simp [go_sem, i.e 149 ((l 13 rfl).1 hgd0)]) rfl,
  fun f s W j l m p q i => gdo rfl rfl (i.says (d := 148) rfl rfl (l 12 rfl)) fun hgd0 => by have cu := ppl_cell (q291'.below j (Nat.le_refl _)) 5 rfl; have cx_ : W.cell? ⟨a21', o22' + 10, none⟩ = some (.int .i64 (-2000)) := cu.1; have cy_ : W.cell? ⟨a21', o22' + 11, none⟩ = some (.int .i64 (-1000)) := cu.2; exact gv (by simp [go_sem, i.e 150 ((l 14 rfl).1 hgd0), cx_, cy_]) rfl,
  fun f s W j l m p q i => gdo rfl rfl (i.says (d := 148) rfl rfl (l 12 rfl)) fun hgd0 => gc (by simp [go_sem]) (span_any (-2000) (-1000) W),
  fun f s W j l m p q i => gdo rfl rfl (i.says (d := 148) rfl rfl (l 12 rfl)) fun hgd0 => gv (by simp [go_sem, i.e 151 ((l 15 rfl).1 hgd0), i.e 152 ((l 16 rfl).1 hgd0)]) rfl,
  fun f s W j l m p q i => opk (c := false) rfl rfl (fun _ => by simp [go_sem, i.e 148 (l 12 rfl), i.e 153 ((l 17 rfl).1 rfl)]) (fun h => absurd h (by decide)),
  fun f s W j l m p q i => opv rfl rfl (by simp [go_sem, i.e 154 (l 18 rfl)]) rfl,
  fun f s W j l m p q i => gdo rfl rfl (i.says (d := 155) rfl rfl (l 19 rfl)) fun hgd0 => gv (by simp [go_sem, i.e 3 k16_3]) rfl,
  fun f s W j l m p q i => gdo rfl rfl (i.says (d := 155) rfl rfl (l 19 rfl)) fun hgd0 => gv (by simp [go_sem, i.e 156 ((l 20 rfl).1 hgd0)]) rfl,
  fun f s W j l m p q i => gdo rfl rfl (i.says (d := 155) rfl rfl (l 19 rfl)) fun hgd0 => by have cu := ppl_cell (q293'.below j (Nat.le_refl _)) 4 rfl; have cx_ : W.cell? ⟨a48', o49' + 8, none⟩ = some (.int .i64 (4)) := cu.1; have cy_ : W.cell? ⟨a48', o49' + 9, none⟩ = some (.int .i64 (2500)) := cu.2; exact gv (by simp [go_sem, i.e 157 ((l 21 rfl).1 hgd0), cx_, cy_]) rfl,
  fun f s W j l m p q i => gdo rfl rfl (i.says (d := 155) rfl rfl (l 19 rfl)) fun hgd0 => gv (by simp [go_sem]) rfl,
  fun f s W j l m p q i => gdo rfl rfl (i.says (d := 155) rfl rfl (l 19 rfl)) fun hgd0 => gv (by simp [go_sem, i.e 158 ((l 22 rfl).1 hgd0), i.e 159 ((l 23 rfl).1 hgd0)]) rfl,
  fun f s W j l m p q i => opk (c := false) rfl rfl (fun _ => by simp [go_sem, i.e 155 (l 19 rfl), i.e 160 ((l 24 rfl).1 rfl)]) (fun h => absurd h (by decide)),
  fun f s W j l m p q i => opv rfl rfl (by simp [go_sem, i.e 161 (l 25 rfl)]) rfl,
  fun f s W j l m p q i => gdo rfl rfl (i.says (d := 162) rfl rfl (l 26 rfl)) fun hgd0 => gv (by simp [go_sem, i.e 5 k16_5, cb b16_0 j 0, cb b16_0 j 1]) rfl,
  fun f s W j l m p q i => gdo rfl rfl (i.says (d := 162) rfl rfl (l 26 rfl)) fun hgd0 => gc (by simp [go_sem]) (span_any 3000 4000 W),
  fun f s W j l m p q i => gdo rfl rfl (i.says (d := 162) rfl rfl (l 26 rfl)) fun hgd0 => gv (by simp [go_sem, i.e 163 ((l 27 rfl).1 hgd0), i.e 164 ((l 28 rfl).1 hgd0)]) rfl,
  fun f s W j l m p q i => opk (c := false) rfl rfl (fun _ => by simp [go_sem, i.e 162 (l 26 rfl), i.e 165 ((l 29 rfl).1 rfl)]) (fun h => absurd h (by decide)),
  fun f s W j l m p q i => opv rfl rfl (by simp [go_sem, i.e 166 (l 30 rfl)]) rfl,
  fun f s W j l m p q i => gdo rfl rfl (i.says (d := 167) rfl rfl (l 31 rfl)) fun hgd0 => gv (by simp [go_sem, i.e 22 k16_22]) rfl,
  fun f s W j l m p q i => gdo rfl rfl (i.says (d := 167) rfl rfl (l 31 rfl)) fun hgd0 => gv (by simp [go_sem, i.e 168 ((l 32 rfl).1 hgd0)]) rfl,
  fun f s W j l m p q i => opk (c := false) rfl rfl (fun _ => by simp [go_sem, i.e 167 (l 31 rfl), i.e 169 ((l 33 rfl).1 rfl)]) (fun h => absurd h (by decide)), trivial⟩ ?_
 intro f17 s17 W17 hB17 g17 hg17
 have fB17 := hB17.f fB16
 have z17 := hB17.below.size
 have b17_0 := hB17.b b16_0
 have b17_1 := hB17.b b16_1
 have b17_2 := hB17.b b16_2
 have q307' := (q291'.bw hB17)
 have q308' := (hB17.lt q292')
 have q309' := (q293'.bw hB17)
 have q310' := (hB17.lt q294')
 have q311' := (q295'.bw hB17)
 have q312' := (hB17.lt q296')
 have q313' := (q297'.bw hB17)
 have q314' := (hB17.lt q298')
 have q315' := (q299'.bw hB17)
 have q316' := (hB17.lt q300')
 have q317' := (q301'.bw hB17)
 have q318' := (hB17.lt q302')
 have q319' := (q303'.bw hB17)
 have q320' := (hB17.lt q304')
 have q321' := (q305'.bw hB17)
 have q322' := (hB17.lt q306')
 refine hK15 _ _ ?_
 have k17_0 := kt hg17 0 k16_0
 have k17_7 := kt hg17 7 k16_7
 have k17_10 := kt hg17 10 k16_10
 have k17_11 := kt hg17 11 k16_11
 have k17_12 := kt hg17 12 k16_12
 have k17_14 := kt hg17 14 k16_14
 have k17_15 := kt hg17 15 k16_15
 have k17_17 := kt hg17 17 k16_17
 have k17_19 := kt hg17 19 k16_19
 have k17_20 := kt hg17 20 k16_20
 have k17_170 := kt hg17 170 (hB17.is 34)
 refine wp_cond_false ((fr_eval rfl).trans k17_170) ?_
 refine wp_skip ?_
 refine hK14 _ _ ?_
 refine wp_seq_k fun K17 hK17 => ?_
 refine region_dk 5 [(171, 0), (172, 1), (173, 2), (174, 3), (24, 4)] [[], [], [], [0, 1, 2], [], [0, 1, 2, 3, 4]] (rel [row 0 4 #[.int .i64 304, .int .i64 204, .int .i64 304, .int .i64 204] 3,
   row 1 2 #[.int .i64 101, .int .i64 51] 3,
   row 2 2 #[.int .i64 101, .int .i64 51] 3,
   isS fun s => .agg #[.int .i64 35, .slice (some ⟨(s 0), 0, none⟩) (4) (4), .int .i64 208, .slice (some ⟨(s 1), 0, none⟩) (2) (2), .slice (some ⟨(s 2), 0, none⟩) (2) (2), .int .i64 4, .bool false],
   bx 4 #[.int .i64 0, .slice (none) (0) (0), .int .i64 0, .slice (none) (0) (0), .slice (none) (0) (0), .int .i64 0, .bool false] 24])
  ⟨row_k, row_k, row_k, isS_k fun s s' e => by rw [e 0 (by simp), e 1 (by simp), e 2 (by simp)], bx_k, trivial⟩
  ⟨fun f s W j l m p q i => opr rfl rfl (by simp [go_sem]),
  fun f s W j l m p q i => opr rfl rfl (by simp [go_sem]),
  fun f s W j l m p q i => opr rfl rfl (by simp [go_sem]),
  fun f s W j l m p q i => opv rfl rfl (by simp [go_sem, i.e 171 (l 0 rfl).1, i.e 172 (l 1 rfl).1, i.e 173 (l 2 rfl).1, upd]) rfl,
  fun f s W j l m p q i => opb rfl rfl (by simp [go_sem]), trivial⟩ ?_
 intro f18 s18 W18 hB18 g18 hg18
 have fB18 := hB18.f fB17
 have z18 := hB18.below.size
 have b18_0 := hB18.b b17_0
 have b18_1 := hB18.b b17_1
 have b18_2 := hB18.b b17_2
 have q323' := (q307'.bw hB18)
 have q324' := (hB18.lt q308')
 have q325' := (q309'.bw hB18)
 have q326' := (hB18.lt q310')
 have q327' := (q311'.bw hB18)
 have q328' := (hB18.lt q312')
 have q329' := (q313'.bw hB18)
 have q330' := (hB18.lt q314')
 have q331' := (q315'.bw hB18)
 have q332' := (hB18.lt q316')
 have q333' := (q317'.bw hB18)
 have q334' := (hB18.lt q318')
 have q335' := (q319'.bw hB18)
 have q336' := (hB18.lt q320')
 have q337' := (q321'.bw hB18)
 have q338' := (hB18.lt q322')
 obtain ⟨r18_0, br18_0⟩ := hB18.is 0
 have lr18_0 := hB18.lr 0 br18_0
 obtain ⟨r18_1, br18_1⟩ := hB18.is 1
 have lr18_1 := hB18.lr 1 br18_1
 obtain ⟨r18_2, br18_2⟩ := hB18.is 2
 have lr18_2 := hB18.lr 2 br18_2
 obtain ⟨r18_4, br18_4⟩ := hB18.is 4
 have lr18_4 := hB18.lr 4 br18_4
 have ne18_0_1 := hB18.nb 0 1
 have ne18_0_2 := hB18.nb 0 2
 have ne18_1_2 := hB18.nb 1 2
 have ne18_0_4 := hB18.nb 0 4
 have ne18_1_4 := hB18.nb 1 4
 have ne18_2_4 := hB18.nb 2 4
 have k18_0 := kt hg18 0 k17_0
 have k18_7 := kt hg18 7 k17_7
 have k18_10 := kt hg18 10 k17_10
 have k18_11 := kt hg18 11 k17_11
 have k18_12 := kt hg18 12 k17_12
 have k18_14 := kt hg18 14 k17_14
 have k18_15 := kt hg18 15 k17_15
 have k18_17 := kt hg18 17 k17_17
 have k18_19 := kt hg18 19 k17_19
 have k18_20 := kt hg18 20 k17_20
 have k18_174 := kt hg18 174 (hB18.is 3)
 have k18_24 := kt hg18 24 r18_4
 obtain ⟨W19, hW19⟩ : ∃ W', W' = W18.setRow (s18 4) #[.int .i64 35, .slice (some ⟨(s18 0), 0, none⟩) (4) (4), .int .i64 208, .slice (some ⟨(s18 1), 0, none⟩) (2) (2), .slice (some ⟨(s18 2), 0, none⟩) (2) (2), .int .i64 4, .bool false] := ⟨_, rfl⟩
 refine tail_skip (o := _) rfl ⟨rfl, rfl⟩ (run_seg hW19 (fr_ev k18_24) (fr_ev k18_174) br18_4 rfl rfl rfl rfl) ?_
 obtain ⟨fB19, nb19, ot19, z19⟩ := seg_facts hW19 fB18 br18_4 (by omega)
 clear hW19
 have b19_0 := ot19 _ _ (by omega) b18_0
 have b19_1 := ot19 _ _ (by omega) b18_1
 have b19_2 := ot19 _ _ (by omega) b18_2
 have b19_3 := ot19 _ _ (by omega) br18_0
 have b19_4 := ot19 _ _ (by omega) br18_1
 have b19_5 := ot19 _ _ (by omega) br18_2
 have q339' := (q323'.other ot19 q324' (by omega) z19)
 have q340' := Nat.lt_of_lt_of_le q324' z19
 have q341' := (q325'.other ot19 q326' (by omega) z19)
 have q342' := Nat.lt_of_lt_of_le q326' z19
 have q343' := (q327'.other ot19 q328' (by omega) z19)
 have q344' := Nat.lt_of_lt_of_le q328' z19
 have q345' := (q329'.other ot19 q330' (by omega) z19)
 have q346' := Nat.lt_of_lt_of_le q330' z19
 have q347' := (q331'.other ot19 q332' (by omega) z19)
 have q348' := Nat.lt_of_lt_of_le q332' z19
 have q349' := (q333'.other ot19 q334' (by omega) z19)
 have q350' := Nat.lt_of_lt_of_le q334' z19
 have q351' := (q335'.other ot19 q336' (by omega) z19)
 have q352' := Nat.lt_of_lt_of_le q336' z19
 have q353' := (q337'.other ot19 q338' (by omega) z19)
 have q354' := Nat.lt_of_lt_of_le q338' z19
 refine wpOps_end ?_
 refine hK17 _ _ ?_
 refine wp_seq_k fun K18 hK18 => ?_
 refine region_dk 40 [(175, 0), (176, 1), (177, 2), (178, 3), (179, 4), (180, 5), (181, 6), (182, 7), (183, 8), (184, 9), (185, 10), (186, 11), (187, 12), (188, 13), (189, 14), (190, 15), (191, 16), (192, 17), (193, 18), (194, 19), (195, 20), (196, 21), (197, 22), (198, 23), (199, 24), (200, 25), (201, 26), (202, 27), (203, 28), (204, 29), (205, 30), (206, 31), (207, 32), (208, 33), (209, 34), (210, 35), (211, 36), (212, 37), (213, 38), (0, 39)] [[], [], [0, 1], [0, 1, 2], [0, 1, 2, 3], [0, 1, 2, 3, 4], [0, 1, 2, 3, 4, 5], [0, 1, 2, 3, 4, 5, 6], [0, 1, 2, 3, 4, 5, 6, 7], [0, 1, 2, 3, 4, 5, 6, 7, 8], [0, 1, 2, 3, 4, 5, 6, 7, 8, 9], [0, 1, 2, 3, 4, 5, 6, 7, 8, 9, 10], [0, 1, 2, 3, 4, 5, 6, 7, 8, 9, 10, 11], [0, 1, 2, 3, 4, 5, 6, 7, 8, 9, 10, 11, 12], [0, 1, 2, 3, 4, 5, 6, 7, 8, 9, 10, 11, 12, 13], [0, 1, 2, 3, 4, 5, 6, 7, 8, 9, 10, 11, 12, 13, 14], [0, 1, 2, 3, 4, 5, 6, 7, 8, 9, 10, 11, 12, 13, 14, 15], [0, 1, 2, 3, 4, 5, 6, 7, 8, 9, 10, 11, 12, 13, 14, 15], [0, 1, 2, 3, 4, 5, 6, 7, 8, 9, 10, 11, 12, 13, 14, 15, 16, 17], [0, 1, 2, 3, 4, 5, 6, 7, 8, 9, 10, 11, 12, 13, 14, 15, 16, 17, 18], [0, 1, 2, 3, 4, 5, 6, 7, 8, 9, 10, 11, 12, 13, 14, 15, 16, 17, 18, 19], [0, 1, 2, 3, 4, 5, 6, 7, 8, 9, 10, 11, 12, 13, 14, 15, 16, 17, 18, 19, 20], [0, 1, 2, 3, 4, 5, 6, 7, 8, 9, 10, 11, 12, 13, 14, 15, 16, 17, 18, 19, 20], [0, 1, 2, 3, 4, 5, 6, 7, 8, 9, 10, 11, 12, 13, 14, 15, 16, 17, 18, 19, 20, 21, 22], [0, 1, 2, 3, 4, 5, 6, 7, 8, 9, 10, 11, 12, 13, 14, 15, 16, 17, 18, 19, 20, 21, 22, 23], [0, 1, 2, 3, 4, 5, 6, 7, 8, 9, 10, 11, 12, 13, 14, 15, 16, 17, 18, 19, 20, 21, 22, 23, 24], [0, 1, 2, 3, 4, 5, 6, 7, 8, 9, 10, 11, 12, 13, 14, 15, 16, 17, 18, 19, 20, 21, 22, 23, 24, 25], [0, 1, 2, 3, 4, 5, 6, 7, 8, 9, 10, 11, 12, 13, 14, 15, 16, 17, 18, 19, 20, 21, 22, 23, 24, 25, 26], [0, 1, 2, 3, 4, 5, 6, 7, 8, 9, 10, 11, 12, 13, 14, 15, 16, 17, 18, 19, 20, 21, 22, 23, 24, 25, 26, 27], [0, 1, 2, 3, 4, 5, 6, 7, 8, 9, 10, 11, 12, 13, 14, 15, 16, 17, 18, 19, 20, 21, 22, 23, 24, 25], [0, 1, 2, 3, 4, 5, 6, 7, 8, 9, 10, 11, 12, 13, 14, 15, 16, 17, 18, 19, 20, 21, 22, 23, 24, 25, 26, 27, 28, 29], [0, 1, 2, 3, 4, 5, 6, 7, 8, 9, 10, 11, 12, 13, 14, 15, 16, 17, 18, 19, 20, 21, 22, 23, 24, 25, 26, 27, 28, 29, 30], [0, 1, 2, 3, 4, 5, 6, 7, 8, 9, 10, 11, 12, 13, 14, 15, 16, 17, 18, 19, 20, 21, 22, 23, 24, 25, 26, 27, 28, 29, 30, 31], [0, 1, 2, 3, 4, 5, 6, 7, 8, 9, 10, 11, 12, 13, 14, 15, 16, 17, 18, 19, 20, 21, 22, 23, 24, 25, 26, 27, 28, 29, 30, 31, 32], [0, 1, 2, 3, 4, 5, 6, 7, 8, 9, 10, 11, 12, 13, 14, 15, 16, 17, 18, 19, 20, 21, 22, 23, 24, 25, 26, 27, 28, 29, 30, 31, 32, 33], [0, 1, 2, 3, 4, 5, 6, 7, 8, 9, 10, 11, 12, 13, 14, 15, 16, 17, 18, 19, 20, 21, 22, 23, 24, 25, 26, 27, 28, 29, 30, 31, 32, 33, 34], [0, 1, 2, 3, 4, 5, 6, 7, 8, 9, 10, 11, 12, 13, 14, 15, 16, 17, 18, 19, 20, 21, 22, 23, 24, 25, 26, 27, 28, 29, 30, 31, 32, 33, 34, 35], [0, 1, 2, 3, 4, 5, 6, 7, 8, 9, 10, 11, 12, 13, 14, 15, 16, 17, 18, 19, 20, 21, 22, 23, 24, 25, 26, 27, 28, 29, 30, 31, 32, 33, 34, 35, 36], [0, 1, 2, 3, 4, 5, 6, 7, 8, 9, 10, 11, 12, 13, 14, 15, 16, 17, 18, 19, 20, 21, 22, 23, 24, 25, 26, 27, 28, 29, 30, 31, 32, 33, 34, 35, 36, 37], [0, 1, 2, 3, 4, 5, 6, 7, 8, 9, 10, 11, 12, 13, 14, 15, 16, 17, 18, 19, 20, 21, 22, 23, 24, 25, 26, 27, 28, 29, 30, 31, 32, 33, 34, 35, 36, 37, 38]] (rel [is (.agg #[.int .i64 wantB.tab, .slice (some ⟨g80', 0, none⟩) (wantB.panels.length) (c83'), .int .i64 wantB.height, .slice (some ⟨g81', 0, none⟩) (wantB.top.length) (c84'), .slice (some ⟨g82', 0, none⟩) (wantB.bottom.length) (c85'), .int .i64 wantB.slot, .bool wantB.isOpen]),
   is (.agg #[.int .i64 35, .slice (some ⟨(s18 0), 0, none⟩) (4) (4), .int .i64 208, .slice (some ⟨(s18 1), 0, none⟩) (2) (2), .slice (some ⟨(s18 2), 0, none⟩) (2) (2), .int .i64 4, .bool false]),
   is (.bool true),
   is (.bool true),
   gd (true) true (is (.int .i64 1051)),
   gd (true) true (is (.bool true)),
   is (.bool true),
   is (.bool true),
   gd (true) true (is (.int .i64 410)),
   gd (true) true (is (.bool true)),
   is (.bool true),
   is (.bool true),
   gd (true) true (is (.int .i64 430910)),
   gd (true) true (is (.bool true)),
   is (.bool true),
   is (.bool true),
   gd (true) true (is (.slice (some ⟨a165', o166', none⟩) (4) (c167'))),
   gd (true) true (row 17 4 #[.int .i64 35, .int .i64 339, .int .i64 543, .int .i64 847] 3),
   gd (true) true (is (.bool true)),
   is (.bool true),
   is (.bool true),
   gd (true) true (is (.slice (some ⟨a170', o171', none⟩) (2) (c172'))),
   gd (true) true (row 22 2 #[.int .i64 101, .int .i64 309] 3),
   gd (true) true (is (.bool true)),
   is (.bool true),
   is (.bool true),
   gd (true) true (is (.slice (some ⟨a224', o225', none⟩) (4) (c226'))),
   gd (true) true (is (.pointer (some ⟨a224', o225' + 6, none⟩))),
   gd (true) true (is (.agg #[.int .i64 6000, .int .i64 8000])),
   gd (true) true (is (.agg #[.int .i64 6000, .int .i64 8000])),
   gd (true) true (is (.bool true)),
   is (.bool true),
   is (.bool true),
   gd (true) true (is (.bool false)),
   gd (true) true (is (.bool true)),
   is (.bool true),
   is (.bool true),
   gd (true) true (is (.bool true)),
   is (.bool true),
   is (.bool true)])
  ⟨is_k, is_k, is_k, is_k, gd_k (is_k), gd_k (is_k), is_k, is_k, gd_k (is_k), gd_k (is_k), is_k, is_k, gd_k (is_k), gd_k (is_k), is_k, is_k, gd_k (is_k), gd_k (row_k), gd_k (is_k), is_k, is_k, gd_k (is_k), gd_k (row_k), gd_k (is_k), is_k, is_k, gd_k (is_k), gd_k (is_k), gd_k (is_k), gd_k (is_k), gd_k (is_k), is_k, is_k, gd_k (is_k), gd_k (is_k), is_k, is_k, gd_k (is_k), is_k, is_k, trivial⟩
  ⟨fun f s W j l m p q i => opv rfl rfl (by simp [go_sem, i.e 7 k18_7, cb b19_1 j 0, cb b19_1 j 1, cb b19_1 j 2, cb b19_1 j 3, cb b19_1 j 4, cb b19_1 j 5, cb b19_1 j 6]) rfl,
  fun f s W j l m p q i => opv rfl rfl (by simp [go_sem, i.e 24 k18_24, cb nb19 j 0, cb nb19 j 1, cb nb19 j 2, cb nb19 j 3, cb nb19 j 4, cb nb19 j 5, cb nb19 j 6]) rfl,
  fun f s W j l m p q i => opDo_call (args := #[.agg #[.int .i64 wantB.tab, .slice (some ⟨g80', 0, none⟩) (wantB.panels.length) (c83'), .int .i64 wantB.height, .slice (some ⟨g81', 0, none⟩) (wantB.top.length) (c84'), .slice (some ⟨g82', 0, none⟩) (wantB.bottom.length) (c85'), .int .i64 wantB.slot, .bool wantB.isOpen], .agg #[.int .i64 35, .slice (some ⟨(s18 0), 0, none⟩) (4) (4), .int .i64 208, .slice (some ⟨(s18 1), 0, none⟩) (2) (2), .slice (some ⟨(s18 2), 0, none⟩) (2) (2), .int .i64 4, .bool false]]) rfl rfl (by simp [go_sem, i.e 175 (l 0 rfl), i.e 176 (l 1 rfl)]) (same_blk (b := wantB) (d := wantB) ⟨_, _, _, _, _, _, _, _, _, rfl, ((q343'.below j (Nat.le_refl _))), ((q345'.below j (Nat.le_refl _))), ((q347'.below j (Nat.le_refl _)))⟩ ⟨_, _, _, _, _, _, _, _, _, rfl, ii_block (xs := [304, 204, 304, 204]) (blk_below b19_3 j) rfl rfl, ii_block (xs := [101, 51]) (blk_below b19_4 j) rfl rfl, ii_block (xs := [101, 51]) (blk_below b19_5 j) rfl rfl⟩) ((fun e W' h => by have h1 := h.1; rw [sameB_self] at h1; exact ⟨_, h1, h.2, rfl⟩)),
  fun f s W j l m p q i => opv rfl rfl (by simp [go_sem, i.e 177 (l 2 rfl)]) rfl,
  fun f s W j l m p q i => gdo rfl rfl (i.says (d := 178) rfl rfl (l 3 rfl)) fun hgd0 => gv (by simp [go_sem, i.e 10 k18_10]) rfl,
  fun f s W j l m p q i => gdo rfl rfl (i.says (d := 178) rfl rfl (l 3 rfl)) fun hgd0 => gv (by simp [go_sem, i.e 179 ((l 4 rfl).1 hgd0)]) rfl,
  fun f s W j l m p q i => opk (c := true) rfl rfl (fun h => absurd h (by decide)) (fun _ => by simp [go_sem, i.e 178 (l 3 rfl), i.e 180 ((l 5 rfl).1 rfl)]),
  fun f s W j l m p q i => opv rfl rfl (by simp [go_sem, i.e 181 (l 6 rfl)]) rfl,
  fun f s W j l m p q i => gdo rfl rfl (i.says (d := 182) rfl rfl (l 7 rfl)) fun hgd0 => gv (by simp [go_sem, i.e 11 k18_11]) rfl,
  fun f s W j l m p q i => gdo rfl rfl (i.says (d := 182) rfl rfl (l 7 rfl)) fun hgd0 => gv (by simp [go_sem, i.e 183 ((l 8 rfl).1 hgd0)]) rfl,
  fun f s W j l m p q i => opk (c := true) rfl rfl (fun h => absurd h (by decide)) (fun _ => by simp [go_sem, i.e 182 (l 7 rfl), i.e 184 ((l 9 rfl).1 rfl)]),
  fun f s W j l m p q i => opv rfl rfl (by simp [go_sem, i.e 185 (l 10 rfl)]) rfl,
  fun f s W j l m p q i => gdo rfl rfl (i.says (d := 186) rfl rfl (l 11 rfl)) fun hgd0 => gv (by simp [go_sem, i.e 12 k18_12]) rfl,
  fun f s W j l m p q i => gdo rfl rfl (i.says (d := 186) rfl rfl (l 11 rfl)) fun hgd0 => gv (by simp [go_sem, i.e 187 ((l 12 rfl).1 hgd0)]) rfl,
  fun f s W j l m p q i => opk (c := true) rfl rfl (fun h => absurd h (by decide)) (fun _ => by simp [go_sem, i.e 186 (l 11 rfl), i.e 188 ((l 13 rfl).1 rfl)]),
  fun f s W j l m p q i => opv rfl rfl (by simp [go_sem, i.e 189 (l 14 rfl)]) rfl,
  fun f s W j l m p q i => gdo rfl rfl (i.says (d := 190) rfl rfl (l 15 rfl)) fun hgd0 => gv (by simp [go_sem, i.e 14 k18_14]) rfl,
  fun f s W j l m p q i => gdo rfl rfl (i.says (d := 190) rfl rfl (l 15 rfl)) fun hgd0 => gr (by simp [go_sem]),
  fun f s W j l m p q i => gdo rfl rfl (i.says (d := 190) rfl rfl (l 15 rfl)) fun hgd0 => gc (args := #[.slice (some ⟨a165', o166', none⟩) (4) (c167'), .slice (some ⟨(s 17), 0, none⟩) (4) (4)]) (by simp [go_sem, i.e 191 ((l 16 rfl).1 hgd0), i.e 192 ((l 17 rfl).1 hgd0).1]) (intsEq_any _ _ [35, 339, 543, 847] _ _ [35, 339, 543, 847] W (q349'.below j (Nat.le_refl _)) (ii_block (xs := [35, 339, 543, 847]) ((l 17 rfl).1 hgd0).2 rfl rfl)),
  fun f s W j l m p q i => opk (c := true) rfl rfl (fun h => absurd h (by decide)) (fun _ => by simp [go_sem, i.e 190 (l 15 rfl), i.e 193 ((l 18 rfl).1 rfl)]),
  fun f s W j l m p q i => opv rfl rfl (by simp [go_sem, i.e 194 (l 19 rfl)]) rfl,
  fun f s W j l m p q i => gdo rfl rfl (i.says (d := 195) rfl rfl (l 20 rfl)) fun hgd0 => gv (by simp [go_sem, i.e 15 k18_15]) rfl,
  fun f s W j l m p q i => gdo rfl rfl (i.says (d := 195) rfl rfl (l 20 rfl)) fun hgd0 => gr (by simp [go_sem]),
  fun f s W j l m p q i => gdo rfl rfl (i.says (d := 195) rfl rfl (l 20 rfl)) fun hgd0 => gc (args := #[.slice (some ⟨a170', o171', none⟩) (2) (c172'), .slice (some ⟨(s 22), 0, none⟩) (2) (2)]) (by simp [go_sem, i.e 196 ((l 21 rfl).1 hgd0), i.e 197 ((l 22 rfl).1 hgd0).1]) (intsEq_any _ _ [101, 309] _ _ [101, 309] W (q351'.below j (Nat.le_refl _)) (ii_block (xs := [101, 309]) ((l 22 rfl).1 hgd0).2 rfl rfl)),
  fun f s W j l m p q i => opk (c := true) rfl rfl (fun h => absurd h (by decide)) (fun _ => by simp [go_sem, i.e 195 (l 20 rfl), i.e 198 ((l 23 rfl).1 rfl)]),
  fun f s W j l m p q i => opv rfl rfl (by simp [go_sem, i.e 199 (l 24 rfl)]) rfl,
  fun f s W j l m p q i => gdo rfl rfl (i.says (d := 200) rfl rfl (l 25 rfl)) fun hgd0 => gv (by simp [go_sem, i.e 17 k18_17]) rfl,
  fun f s W j l m p q i => gdo rfl rfl (i.says (d := 200) rfl rfl (l 25 rfl)) fun hgd0 => gv (by simp [go_sem, i.e 201 ((l 26 rfl).1 hgd0)]) rfl,
  fun f s W j l m p q i => gdo rfl rfl (i.says (d := 200) rfl rfl (l 25 rfl)) fun hgd0 => by have cu := ppl_cell (q353'.below j (Nat.le_refl _)) 3 rfl; have cx_ : W.cell? ⟨a224', o225' + 6, none⟩ = some (.int .i64 (6000)) := cu.1; have cy_ : W.cell? ⟨a224', o225' + 7, none⟩ = some (.int .i64 (8000)) := cu.2; exact gv (by simp [go_sem, i.e 202 ((l 27 rfl).1 hgd0), cx_, cy_]) rfl,
  fun f s W j l m p q i => gdo rfl rfl (i.says (d := 200) rfl rfl (l 25 rfl)) fun hgd0 => gc (by simp [go_sem]) (span_any 6000 8000 W),
  fun f s W j l m p q i => gdo rfl rfl (i.says (d := 200) rfl rfl (l 25 rfl)) fun hgd0 => gv (by simp [go_sem, i.e 203 ((l 28 rfl).1 hgd0), i.e 204 ((l 29 rfl).1 hgd0)]) rfl,
  fun f s W j l m p q i => opk (c := true) rfl rfl (fun h => absurd h (by decide)) (fun _ => by simp [go_sem, i.e 200 (l 25 rfl), i.e 205 ((l 30 rfl).1 rfl)]),
  fun f s W j l m p q i => opv rfl rfl (by simp [go_sem, i.e 206 (l 31 rfl)]) rfl,
  fun f s W j l m p q i => gdo rfl rfl (i.says (d := 207) rfl rfl (l 32 rfl)) fun hgd0 => gv (by simp [go_sem, i.e 19 k18_19]) rfl,
  fun f s W j l m p q i => gdo rfl rfl (i.says (d := 207) rfl rfl (l 32 rfl)) fun hgd0 => gv (by simp [go_sem, i.e 208 ((l 33 rfl).1 hgd0)]) rfl,
  fun f s W j l m p q i => opk (c := true) rfl rfl (fun h => absurd h (by decide)) (fun _ => by simp [go_sem, i.e 207 (l 32 rfl), i.e 209 ((l 34 rfl).1 rfl)]),
  fun f s W j l m p q i => opv rfl rfl (by simp [go_sem, i.e 210 (l 35 rfl)]) rfl,
  fun f s W j l m p q i => gdo rfl rfl (i.says (d := 211) rfl rfl (l 36 rfl)) fun hgd0 => gv (by simp [go_sem, i.e 20 k18_20]) rfl,
  fun f s W j l m p q i => opk (c := true) rfl rfl (fun h => absurd h (by decide)) (fun _ => by simp [go_sem, i.e 211 (l 36 rfl), i.e 212 ((l 37 rfl).1 rfl)]),
  fun f s W j l m p q i => opv rfl rfl (by simp [go_sem, i.e 213 (l 38 rfl)]) rfl, trivial⟩ ?_
 intro f20 s20 W20 hB20 g20 hg20
 have fB20 := hB20.f fB19
 have z20 := hB20.below.size
 have b20_0 := hB20.b b19_0
 have b20_1 := hB20.b b19_1
 have b20_2 := hB20.b b19_2
 have b20_3 := hB20.b b19_3
 have b20_4 := hB20.b b19_4
 have b20_5 := hB20.b b19_5
 have b20_6 := hB20.b nb19
 have q355' := (q339'.bw hB20)
 have q356' := (hB20.lt q340')
 have q357' := (q341'.bw hB20)
 have q358' := (hB20.lt q342')
 have q359' := (q343'.bw hB20)
 have q360' := (hB20.lt q344')
 have q361' := (q345'.bw hB20)
 have q362' := (hB20.lt q346')
 have q363' := (q347'.bw hB20)
 have q364' := (hB20.lt q348')
 have q365' := (q349'.bw hB20)
 have q366' := (hB20.lt q350')
 have q367' := (q351'.bw hB20)
 have q368' := (hB20.lt q352')
 have q369' := (q353'.bw hB20)
 have q370' := (hB20.lt q354')
 have r20_17 := hB20.is 17
 have r20_22 := hB20.is 22
 have ne20_17_22 := hB20.nb 17 22
 refine hK18 _ _ ?_
 have k20_0 := kt hg20 0 (hB20.is 39)
 refine wp_ret ?_
 refine leave_one (N := 214) (v := .bool true) (.inr rfl) Try.results8 rfl k20_0 ?_
 exact ⟨rfl, fB20⟩
end Go.Proofs.Ythnediamopehfaa
