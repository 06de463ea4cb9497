/- Part of the proof: what the claim leans on. -/
import Derived.Test.YtolnpbpeifpbjaaVAK
import Derived.Test.YtolnpbpeifpbjaaVAI
set_option maxHeartbeats 8000000
set_option maxRecDepth 100000
set_option linter.unusedSimpArgs false
set_option linter.unusedVariables false
namespace Go.Proofs.Ytolnpbpeifpbjaa
open Go.RowKit
def IsKi (n : Nat) (xs : List Int) (v : Value) (W : World) : Prop := ∃ a c, v = .slice (some ⟨a, 0, none⟩) n c ∧ Ii W (some ⟨a, 0, none⟩) n c xs
theorem IsKi.below {n : Nat} {xs : List Int} {v : Value} {W W' : World} (h : IsKi n xs v W) (hb : Below W.heap.size W W') : IsKi n xs v W' := by
  obtain ⟨a, c, e, h⟩ := h; exact ⟨a, c, e, h.below hb (Nat.le_refl _)⟩
theorem owns_iiT {W : World} {B : Nat} {T : TypeId} {g n c : Nat} {xs : List Int} (h : W.ownsRow B T 1 (.slice (some ⟨g, 0, none⟩) n c) n (xs.map (Value.int .i64))) : Ii W (some ⟨g, 0, none⟩) n c xs := by
  obtain ⟨h1, h2⟩ := h
  have hn : n = xs.length := by simpa using h1.symm
  rcases h2 with ⟨e, -⟩ | ⟨g', cap, cur, e, h3, h4, h5, h6, h7, h8⟩
  · cases e
  · cases e
    refine ⟨hn, by omega, h6, by simp, .inr ⟨g, 0, rfl, ltb h4, fun i hi => ?_⟩⟩
    rw [Joins.cell_of_block h4 (0 + i), Nat.zero_add]
    have h9 := congrArg (·[i]?) h8
    rw [List.getElem?_take_of_lt (by rw [List.length_map] at hi; omega), Array.getElem?_toList] at h9
    rw [h9, List.getD_eq_getElem?_getD, List.getElem?_eq_getElem hi]; rfl
theorem ii_cell {W : World} {b o n c : Nat} {xs : List Int} (h : Ii W (some ⟨b, o, none⟩) n c xs) (i : Nat) (hi : i < xs.length) : W.cell? ⟨b, o + i, none⟩ = some (.int .i64 (xs.getD i 0)) := by
  obtain ⟨b', o', e, -, hc⟩ := h.at (by omega)
  cases e
  exact hc i hi
theorem ownV_one {T : TypeId} {B b : Nat} {x : Int} {W : World} (h : W.heap[b]? = some (.cells #[.int .i64 x] T (0, 0))) (hb : B ≤ b) : OwnV T 1 B (iis [x]) 1 (some ⟨b, 0, none⟩) 1 W := by
  have := ltb h
  exact ⟨by omega, fun y e => by cases e; exact ⟨hb, this⟩, by simp [iis], .inr ⟨b, 1, _, rfl, hb, h, Nat.le_refl _, by unfold maxLen; omega, by simp, by simp [iis]⟩⟩
theorem kinds_1 (w : World) :
  Calls Try.prog 81 #[.int .i64 1] w (fun e w' => ∃ v, e = .returned v ∧ IsKi 3 [1, 2, 1] v w' ∧ Below w.heap.size w w') := by
 refine calls_fr Try.func81 Try.ntmps81 rfl rfl fun g hg => ?_
 have k0 : g 0 = .int .i64 1 := hg 0
 clear hg
 have fB0 : Below w.heap.size w w := Below.refl _ _
 refine rw_ 1 [(2, 0)] [[]] (rel [is (.slice none 0 0)])
  ⟨fun f s W b d h i j a => opv rfl rfl (by simp [go_sem]) rfl, trivial⟩ ?_
 intro f1 s1 W1 hB1 g1 hg1 z1
 refine rx 2 [(4, 0), (3, 1)] [[], [0]] (rel [row 0 1 #[.int .i64 1] 101, isS fun s => .slice (some ⟨(s 0), 0, none⟩) (1) (1)])
  ⟨row_k, isS_k fun s s' e => by rw [e 0 (by simp)], trivial⟩
  ⟨fun f s W b d h i j a => opr rfl rfl (by simp [go_sem]),
  fun f s W b d h i j a => opv rfl rfl (by simp [go_sem, a.e 4 (d 0 rfl).1, upd]) rfl, trivial⟩ ?_
 intro f2 s2 W2 hB2 g2 hg2 z2
 obtain ⟨r2_0, br2_0⟩ := hB2.is 0
 have lr2_0 := hB2.lr 0 br2_0
 have k2_0 := kt hg2 0 (kt hg1 0 k0)
 have owk : OwnV 101 1 w.heap.size (iis [1]) 1 (some ⟨(s2 0), 0, none⟩) 1 W2 := ownV_one br2_0 (by omega)
 refine wp_seq_k fun K3 hK3 => ?_
 refine rw_ 2 [(5, 0), (6, 1)] [[], []] (rel [iI 1, iI 0])
  ⟨fun f s W b d h i j a => opm (a.v 0 k2_0),
  fun f s W b d h i j a => opz, trivial⟩ ?_
 intro f3 s3 W3 hB3 g3 hg3 z3
 have q1' := (owk.below hB3.below)
 have k3_5 := kt hg3 5 (hB3.is 0)
 have k3_6 := kt hg3 6 (hB3.is 1)
 refine wp_block ?_
 refine wp_loop_rounds 2 ?_
 rw [rounds_succ]
 refine rw_ 1 [(7, 0)] [[]] (rel [iB true])
  ⟨fun f s W b d h i j a => opv rfl rfl (by simp [go_sem, a.e 6 k3_6, a.e 5 k3_5]) rfl, trivial⟩ ?_
 intro f4 s4 W4 hB4 g4 hg4 z4
 have q2' := (q1'.below hB4.below)
 have k4_3 := kt hg4 3 (kt hg3 3 (kt hg2 3 (hB2.is 1)))
 have k4_7 := kt hg4 7 (hB4.is 0)
 refine wp_seq_k fun K6 hK6 => ?_
 refine wp_cond_true ((fr_eval rfl).trans k4_7) ?_
 refine wp_skip ?_
 refine hK6 _ _ ?_
 refine wp_seq_k fun K8 hK8 => ?_
 refine wp_block ?_
 refine ry 2 [(8, 0), (9, 1), (10, 2), (3, 3)] [[], [], [0, 1], [0, 1, 2]] (rel [is (.slice (some ⟨(s2 0), 0, none⟩) (1) (1)), row 1 2 #[.int .i64 2, .int .i64 1] 101])
  ⟨fun f s W b d h i j a => opm (a.v 3 ((i 3 3 rfl rfl).trans k4_3)),
  fun f s W b d h i j a => opr rfl rfl (by simp [go_sem]), trivial⟩ ?_
 intro f5 s5 W5 hB5 g5 hg5 z5
 have fB5 := hB5.f (hB4.f (hB3.f (hB2.f (hB1.f fB0))))
 have q3' := (q2'.below hB5.below)
 obtain ⟨r5_1, br5_1⟩ := hB5.is 1
 have lr5_1 := hB5.lr 1 br5_1
 have k5_8 := kt hg5 8 (hB5.is 0)
 have k5_9 := kt hg5 9 r5_1
 obtain ⟨ga6, ca6, W6, ra6, ow6, ot6, z6, fB6⟩ := growV_tail 157 119 101 1 8 (.int .i64 0) Try.underlying157 (by kernel_rfl) rfl (c := 1) (iis ([1, 2, 1])) (3) (k := 2) (c' := 2) [.int .i64 2, .int .i64 1] fB5 q3' rfl rfl (Nat.le_refl _) rfl rfl (cells_at br5_1) (by decide)
 refine tail_value2 (o := _) rfl rfl rfl (run_appendOp (fr_ev k5_8) (fr_ev k5_9) ra6) ?_
 generalize hg6 : upd g5 10 (.slice (some ⟨ga6, 0, none⟩) 3 ca6) = g6
 have k6_10 := kt hg6 10 (upd_same _ _ _)
 refine tail_value (o := _) rfl rfl rfl (v := .slice (some ⟨ga6, 0, none⟩) 3 ca6) (by simp [go_sem, frv 13 k6_10]) ?_
 generalize hg7 : upd g6 3 (.slice (some ⟨ga6, 0, none⟩) 3 ca6) = g7
 have k7_6 := ku hg7 6 (ku hg6 6 (kt hg5 6 (kt hg4 6 k3_6)))
 refine wpe ?_
 refine ibn ?_
 refine hK8 _ _ ?_
 refine ry 2 [(11, 0), (6, 1)] [[], [0]] (rel [iI 1, iI 1])
  ⟨fun f s W b d h i j a => opv rfl rfl (by simp [go_sem, a.e 6 ((i 1 6 rfl rfl).trans k7_6), IntWalk.i64_in (1) (by omega)]) rfl,
  fun f s W b d h i j a => opm (a.v 11 (d 0 rfl)), trivial⟩ ?_
 intro f8 s8 W8 hB8 g8 hg8 z8
 have q4' := (ow6.below hB8.below)
 refine wpe ?_
 have k8_5 := kt hg8 5 (ku hg7 5 (ku hg6 5 (kt hg5 5 (kt hg4 5 k3_5))))
 have k8_6 := kt hg8 6 (hB8.is 1)
 refine then_normal ?_
 rw [rounds_succ]
 refine rw_ 1 [(7, 0)] [[]] (rel [iB false])
  ⟨fun f s W b d h i j a => opv rfl rfl (by simp [go_sem, a.e 6 k8_6, a.e 5 k8_5]) rfl, trivial⟩ ?_
 intro f9 s9 W9 hB9 g9 hg9 z9
 have q5' := (q4'.below hB9.below)
 have k9_3 := kt hg9 3 (kt hg8 3 (kt hg7 3 (upd_same _ _ _)))
 have k9_7 := kt hg9 7 (hB9.is 0)
 refine wp_seq_k fun K10 hK10 => ?_
 refine wp_cond_false ((fr_eval rfl).trans k9_7) ?_
 refine wp_exit ?_
 refine then_exit ?_
 refine then_exit ?_
 refine inBlock_at ?_
 refine hK3 _ _ ?_
 refine rw_ 2 [(12, 0), (2, 1)] [[], [0]] (rel [is (.slice (some ⟨ga6, 0, none⟩) 3 ca6), is (.slice (some ⟨ga6, 0, none⟩) 3 ca6)])
  ⟨fun f s W b d h i j a => opm (a.v 3 k9_3),
  fun f s W b d h i j a => opm (a.v 12 (d 0 rfl)), trivial⟩ ?_
 intro f10 s10 W10 hB10 g10 hg10 z10
 have fB10 := hB10.f (hB9.f (hB8.f fB6))
 have q6' := (q5'.below hB10.below)
 have k10_2 := kt hg10 2 (hB10.is 1)
 refine wp_ret ?_
 refine leave_one (N := 13) (.inr rfl) Try.results81 rfl k10_2 ?_
 exact ⟨_, rfl, ⟨_, _, rfl, owns_iiT (xs := [1, 2, 1]) q6'.2.2⟩, fB10⟩
theorem kinds_2 (w : World) :
  Calls Try.prog 81 #[.int .i64 2] w (fun e w' => ∃ v, e = .returned v ∧ IsKi 5 [1, 2, 1, 2, 1] v w' ∧ Below w.heap.size w w') := by
 refine calls_fr Try.func81 Try.ntmps81 rfl rfl fun g hg => ?_
 have k0 : g 0 = .int .i64 2 := hg 0
 clear hg
 have fB0 : Below w.heap.size w w := Below.refl _ _
 refine rw_ 1 [(2, 0)] [[]] (rel [is (.slice none 0 0)])
  ⟨fun f s W b d h i j a => opv rfl rfl (by simp [go_sem]) rfl, trivial⟩ ?_
 intro f1 s1 W1 hB1 g1 hg1 z1
 refine rx 2 [(4, 0), (3, 1)] [[], [0]] (rel [row 0 1 #[.int .i64 1] 101, isS fun s => .slice (some ⟨(s 0), 0, none⟩) (1) (1)])
  ⟨row_k, isS_k fun s s' e => by rw [e 0 (by simp)], trivial⟩
  ⟨fun f s W b d h i j a => opr rfl rfl (by simp [go_sem]),
  fun f s W b d h i j a => opv rfl rfl (by simp [go_sem, a.e 4 (d 0 rfl).1, upd]) rfl, trivial⟩ ?_
 intro f2 s2 W2 hB2 g2 hg2 z2
 obtain ⟨r2_0, br2_0⟩ := hB2.is 0
 have lr2_0 := hB2.lr 0 br2_0
 have k2_0 := kt hg2 0 (kt hg1 0 k0)
 have owk : OwnV 101 1 w.heap.size (iis [1]) 1 (some ⟨(s2 0), 0, none⟩) 1 W2 := ownV_one br2_0 (by omega)
 refine wp_seq_k fun K3 hK3 => ?_
 refine rw_ 2 [(5, 0), (6, 1)] [[], []] (rel [iI 2, iI 0])
  ⟨fun f s W b d h i j a => opm (a.v 0 k2_0),
  fun f s W b d h i j a => opz, trivial⟩ ?_
 intro f3 s3 W3 hB3 g3 hg3 z3
 have q7' := (owk.below hB3.below)
 have k3_5 := kt hg3 5 (hB3.is 0)
 have k3_6 := kt hg3 6 (hB3.is 1)
 refine wp_block ?_
 refine wp_loop_rounds 3 ?_
 rw [rounds_succ]
 refine rw_ 1 [(7, 0)] [[]] (rel [iB true])
  ⟨fun f s W b d h i j a => opv rfl rfl (by simp [go_sem, a.e 6 k3_6, a.e 5 k3_5]) rfl, trivial⟩ ?_
 intro f4 s4 W4 hB4 g4 hg4 z4
 have q8' := (q7'.below hB4.below)
 have k4_3 := kt hg4 3 (kt hg3 3 (kt hg2 3 (hB2.is 1)))
 have k4_7 := kt hg4 7 (hB4.is 0)
 refine wp_seq_k fun K6 hK6 => ?_
 refine wp_cond_true ((fr_eval rfl).trans k4_7) ?_
 refine wp_skip ?_
 refine hK6 _ _ ?_
 refine wp_seq_k fun K8 hK8 => ?_
 refine wp_block ?_
 refine ry 2 [(8, 0), (9, 1), (10, 2), (3, 3)] [[], [], [0, 1], [0, 1, 2]] (rel [is (.slice (some ⟨(s2 0), 0, none⟩) (1) (1)), row 1 2 #[.int .i64 2, .int .i64 1] 101])
  ⟨fun f s W b d h i j a => opm (a.v 3 ((i 3 3 rfl rfl).trans k4_3)),
  fun f s W b d h i j a => opr rfl rfl (by simp [go_sem]), trivial⟩ ?_
 intro f5 s5 W5 hB5 g5 hg5 z5
 have fB5 := hB5.f (hB4.f (hB3.f (hB2.f (hB1.f fB0))))
 have q9' := (q8'.below hB5.below)
 obtain ⟨r5_1, br5_1⟩ := hB5.is 1
 have lr5_1 := hB5.lr 1 br5_1
 have k5_8 := kt hg5 8 (hB5.is 0)
 have k5_9 := kt hg5 9 r5_1
 obtain ⟨ga6, ca6, W6, ra6, ow6, ot6, z6, fB6⟩ := growV_tail 157 119 101 1 8 (.int .i64 0) Try.underlying157 (by kernel_rfl) rfl (c := 1) (iis ([1, 2, 1])) (3) (k := 2) (c' := 2) [.int .i64 2, .int .i64 1] fB5 q9' rfl rfl (Nat.le_refl _) rfl rfl (cells_at br5_1) (by decide)
 refine tail_value2 (o := _) rfl rfl rfl (run_appendOp (fr_ev k5_8) (fr_ev k5_9) ra6) ?_
 generalize hg6 : upd g5 10 (.slice (some ⟨ga6, 0, none⟩) 3 ca6) = g6
 have k6_10 := kt hg6 10 (upd_same _ _ _)
 refine tail_value (o := _) rfl rfl rfl (v := .slice (some ⟨ga6, 0, none⟩) 3 ca6) (by simp [go_sem, frv 13 k6_10]) ?_
 generalize hg7 : upd g6 3 (.slice (some ⟨ga6, 0, none⟩) 3 ca6) = g7
 have k7_6 := ku hg7 6 (ku hg6 6 (kt hg5 6 (kt hg4 6 k3_6)))
 refine wpe ?_
 refine ibn ?_
 refine hK8 _ _ ?_
 refine ry 2 [(11, 0), (6, 1)] [[], [0]] (rel [iI 1, iI 1])
  ⟨fun f s W b d h i j a => opv rfl rfl (by simp [go_sem, a.e 6 ((i 1 6 rfl rfl).trans k7_6), IntWalk.i64_in (1) (by omega)]) rfl,
  fun f s W b d h i j a => opm (a.v 11 (d 0 rfl)), trivial⟩ ?_
 intro f8 s8 W8 hB8 g8 hg8 z8
 have q10' := (ow6.below hB8.below)
 refine wpe ?_
 have k8_5 := kt hg8 5 (ku hg7 5 (ku hg6 5 (kt hg5 5 (kt hg4 5 k3_5))))
 have k8_6 := kt hg8 6 (hB8.is 1)
 refine then_normal ?_
 rw [rounds_succ]
 refine rw_ 1 [(7, 0)] [[]] (rel [iB true])
  ⟨fun f s W b d h i j a => opv rfl rfl (by simp [go_sem, a.e 6 k8_6, a.e 5 k8_5]) rfl, trivial⟩ ?_
 intro f9 s9 W9 hB9 g9 hg9 z9
 have q11' := (q10'.below hB9.below)
 have k9_3 := kt hg9 3 (kt hg8 3 (kt hg7 3 (upd_same _ _ _)))
 have k9_7 := kt hg9 7 (hB9.is 0)
 refine wp_seq_k fun K10 hK10 => ?_
 refine wp_cond_true ((fr_eval rfl).trans k9_7) ?_
 refine wp_skip ?_
 refine hK10 _ _ ?_
 refine wp_seq_k fun K12 hK12 => ?_
 refine wp_block ?_
 refine ry 2 [(8, 0), (9, 1), (10, 2), (3, 3)] [[], [], [0, 1], [0, 1, 2]] (rel [is (.slice (some ⟨ga6, 0, none⟩) 3 ca6), row 1 2 #[.int .i64 2, .int .i64 1] 101])
  ⟨fun f s W b d h i j a => opm (a.v 3 ((i 3 3 rfl rfl).trans k9_3)),
  fun f s W b d h i j a => opr rfl rfl (by simp [go_sem]), trivial⟩ ?_
 intro f10 s10 W10 hB10 g10 hg10 z10
 have fB10 := hB10.f (hB9.f (hB8.f fB6))
 have q12' := (q11'.below hB10.below)
 obtain ⟨r10_1, br10_1⟩ := hB10.is 1
 have lr10_1 := hB10.lr 1 br10_1
 have k10_8 := kt hg10 8 (hB10.is 0)
 have k10_9 := kt hg10 9 r10_1
 obtain ⟨ga11, ca11, W11, ra11, ow11, ot11, z11, fB11⟩ := growV_tail 157 119 101 1 8 (.int .i64 0) Try.underlying157 (by kernel_rfl) rfl (c := ca6) (iis ([1, 2, 1, 2, 1])) (5) (k := 2) (c' := 2) [.int .i64 2, .int .i64 1] fB10 q12' rfl rfl (Nat.le_refl _) rfl rfl (cells_at br10_1) (by decide)
 refine tail_value2 (o := _) rfl rfl rfl (run_appendOp (fr_ev k10_8) (fr_ev k10_9) ra11) ?_
 generalize hg11 : upd g10 10 (.slice (some ⟨ga11, 0, none⟩) 5 ca11) = g11
 have k11_10 := kt hg11 10 (upd_same _ _ _)
 refine tail_value (o := _) rfl rfl rfl (v := .slice (some ⟨ga11, 0, none⟩) 5 ca11) (by simp [go_sem, frv 13 k11_10]) ?_
 generalize hg12 : upd g11 3 (.slice (some ⟨ga11, 0, none⟩) 5 ca11) = g12
 have k12_6 := ku hg12 6 (ku hg11 6 (kt hg10 6 (kt hg9 6 k8_6)))
 refine wpe ?_
 refine ibn ?_
 refine hK12 _ _ ?_
 refine ry 2 [(11, 0), (6, 1)] [[], [0]] (rel [iI 2, iI 2])
  ⟨fun f s W b d h i j a => opv rfl rfl (by simp [go_sem, a.e 6 ((i 1 6 rfl rfl).trans k12_6), IntWalk.i64_in (2) (by omega)]) rfl,
  fun f s W b d h i j a => opm (a.v 11 (d 0 rfl)), trivial⟩ ?_
 intro f13 s13 W13 hB13 g13 hg13 z13
 have q13' := (ow11.below hB13.below)
 refine wpe ?_
 have k13_5 := kt hg13 5 (ku hg12 5 (ku hg11 5 (kt hg10 5 (kt hg9 5 k8_5))))
 have k13_6 := kt hg13 6 (hB13.is 1)
 refine then_normal ?_
 rw [rounds_succ]
 refine rw_ 1 [(7, 0)] [[]] (rel [iB false])
  ⟨fun f s W b d h i j a => opv rfl rfl (by simp [go_sem, a.e 6 k13_6, a.e 5 k13_5]) rfl, trivial⟩ ?_
 intro f14 s14 W14 hB14 g14 hg14 z14
 have q14' := (q13'.below hB14.below)
 have k14_3 := kt hg14 3 (kt hg13 3 (kt hg12 3 (upd_same _ _ _)))
 have k14_7 := kt hg14 7 (hB14.is 0)
 refine wp_seq_k fun K14 hK14 => ?_
 refine wp_cond_false ((fr_eval rfl).trans k14_7) ?_
 refine wp_exit ?_
 refine then_exit ?_
 refine then_exit ?_
 refine inBlock_at ?_
 refine hK3 _ _ ?_
 refine rw_ 2 [(12, 0), (2, 1)] [[], [0]] (rel [is (.slice (some ⟨ga11, 0, none⟩) 5 ca11), is (.slice (some ⟨ga11, 0, none⟩) 5 ca11)])
  ⟨fun f s W b d h i j a => opm (a.v 3 k14_3),
  fun f s W b d h i j a => opm (a.v 12 (d 0 rfl)), trivial⟩ ?_
 intro f15 s15 W15 hB15 g15 hg15 z15
 have fB15 := hB15.f (hB14.f (hB13.f fB11))
 have q15' := (q14'.below hB15.below)
 have k15_2 := kt hg15 2 (hB15.is 1)
 refine wp_ret ?_
 refine leave_one (N := 13) (.inr rfl) Try.results81 rfl k15_2 ?_
 exact ⟨_, rfl, ⟨_, _, rfl, owns_iiT (xs := [1, 2, 1, 2, 1]) q15'.2.2⟩, fB15⟩
theorem isForm_1 (ax af : Option Addr) (cx cf : Nat) (w : World) :
  Calls Try.prog 79 #[.agg #[.slice ax 3 cx, .slice af 1 cf]] w (fun e w' => e = .returned (.bool true) ∧ Below w.heap.size w w') := by
 refine calls_fr Try.func79 Try.ntmps79 rfl rfl fun g hg => ?_
 have k0 : g 0 = .agg #[.slice ax 3 cx, .slice af 1 cf] := hg 0
 clear hg
 have fB0 : Below w.heap.size w w := Below.refl _ _
 refine rw_ 2 [(1, 0), (2, 1)] [[], []] (rel [bx 0 #[.slice ax 3 cx, .slice af 1 cf] 71, iB false])
  ⟨fun f s W i j k l m a => opb rfl rfl (by simp [go_sem, a.e 0 k0]),
  fun f s W i j k l m a => opz, trivial⟩ ?_
 intro f1 s1 W1 hB1 g1 hg1 z1
 obtain ⟨r1_0, br1_0⟩ := hB1.is 0
 have lr1_0 := hB1.lr 0 br1_0
 have k1_1 := kt hg1 1 r1_0
 refine rx 17 [(3, 0), (4, 1), (5, 2), (6, 3), (7, 4), (8, 5), (9, 6), (10, 7), (11, 8), (12, 9), (13, 10), (14, 11), (15, 12), (16, 13), (17, 14), (18, 15), (2, 16)] [[], [0], [1], [2], [3], [4], [5], [5, 6], [5, 7], [5], [5, 9], [5, 10], [5, 11], [5, 12], [5, 8, 13], [5, 14], [15]] (rel [is (.pointer (some ⟨(s1 0), 1, none⟩)), is (.slice af 1 cf), iI 1, row 3 1 #[.int .i64 1] 3, iB true, iB true, is (.pointer (some ⟨(s1 0), 0, none⟩)), is (.slice ax 3 cx), iI 3, is (.pointer (some ⟨(s1 0), 1, none⟩)), is (.slice af 1 cf), iI 1, ab fun v W => IsKi 3 [1, 2, 1] v W, iI 3, iB true, iB true, iB true])
  ⟨is_k, is_k, is_k, row_k, is_k, is_k, is_k, is_k, is_k, is_k, is_k, is_k, ab_k fun v W W' hb h => h.below hb, is_k, is_k, is_k, is_k, trivial⟩
  ⟨fun f s W i j k l m a => opv rfl rfl (by simp [go_sem, a.e 1 k1_1]) rfl,
  fun f s W i j k l m a => opv rfl rfl (by simp [go_sem, a.e 3 (j 0 rfl), cb br1_0 i 1]) rfl,
  fun f s W i j k l m a => opv rfl rfl (by simp [go_sem, a.e 4 (j 1 rfl)]) rfl,
  fun f s W i j k l m a => opr rfl rfl (by simp [go_sem, a.e 5 (j 2 rfl)]),
  fun f s W i j k l m a => opc (args := #[.int .i64 1, .int .i64 2, .slice (some ⟨(s 3), 0, none⟩) (1) (1)]) rfl rfl (by simp [go_sem, a.e 6 (j 3 rfl).1]) (bo_within_any 1 2 _ 1 1 [1] W (ii_block (xs := [1]) (j 3 rfl).2 rfl rfl)),
  fun f s W i j k l m a => opm (a.v 7 (j 4 rfl)),
  fun f s W i j k l m a => osure rfl rfl (a.says (d := 8) rfl rfl (j 5 rfl)) (gv (by simp [go_sem, a.e 1 k1_1]) rfl),
  fun f s W i j k l m a => osure rfl rfl (a.says (d := 8) rfl rfl (j 5 rfl)) (gv (by simp [go_sem, a.e 9 (j 6 rfl), cb br1_0 i 0]) rfl),
  fun f s W i j k l m a => osure rfl rfl (a.says (d := 8) rfl rfl (j 5 rfl)) (gv (by simp [go_sem, a.e 10 (j 7 rfl)]) rfl),
  fun f s W i j k l m a => osure rfl rfl (a.says (d := 8) rfl rfl (j 5 rfl)) (gv (by simp [go_sem, a.e 1 k1_1]) rfl),
  fun f s W i j k l m a => osure rfl rfl (a.says (d := 8) rfl rfl (j 5 rfl)) (gv (by simp [go_sem, a.e 12 (j 9 rfl), cb br1_0 i 1]) rfl),
  fun f s W i j k l m a => osure rfl rfl (a.says (d := 8) rfl rfl (j 5 rfl)) (gv (by simp [go_sem, a.e 13 (j 10 rfl)]) rfl),
  fun f s W i j k l m a => osure rfl rfl (a.says (d := 8) rfl rfl (j 5 rfl)) (wp_called (by simp [go_sem, a.e 14 (j 11 rfl)]) (kinds_1 W) ((fun e W' h => by obtain ⟨v, e1, h1, h2⟩ := h; exact ⟨_, e1, h2, h1⟩))),
  fun f s W i j k l m a => osure rfl rfl (a.says (d := 8) rfl rfl (j 5 rfl)) (by obtain ⟨a16', c17', d12, q18'⟩ := (j 12 rfl); exact gv (by simp [go_sem, a.e 15 d12]) rfl),
  fun f s W i j k l m a => osure rfl rfl (a.says (d := 8) rfl rfl (j 5 rfl)) (gv (by simp [go_sem, a.e 11 (j 8 rfl), a.e 16 (j 13 rfl)]) rfl),
  fun f s W i j k l m a => opk (c := true) rfl rfl (fun h => absurd h (by decide)) (fun _ => by simp [go_sem, a.e 8 (j 5 rfl), a.e 17 (j 14 rfl)]),
  fun f s W i j k l m a => opm (a.v 18 (j 15 rfl)), trivial⟩ ?_
 intro f2 s2 W2 hB2 g2 hg2 z2
 have fB2 := hB2.f (hB1.f fB0)
 obtain ⟨r2_3, br2_3⟩ := hB2.is 3
 have lr2_3 := hB2.lr 3 br2_3
 have k2_2 := kt hg2 2 (hB2.is 16)
 refine wp_ret ?_
 refine leave_one (N := 19) (.inr rfl) Try.results79 rfl k2_2 ?_
 exact ⟨rfl, fB2⟩
theorem made_1 (ps : Nat → Pa) (qs : Nat → Fu) (bp oP np cp bq oq nq cq : Nat) (tx ux cx tf uf cf pa0 pa1 pa2 fa0 : Nat) (PA0 PA1 PA2 : Pa) (FA0 : Fu) (w : World) (hP : PaR w bp oP np ps) (hQ : FuR w bq oq nq qs) (hpi : ∀ i, i < np → PaIn (ps i)) (hqi : ∀ i, i < nq → FuIn (qs i)) (np1 : 1 ≤ np) (np8 : np ≤ 8) (nq1 : 1 ≤ nq) (nq4 : nq ≤ 4) (hX : Ii w (some ⟨tx, ux, none⟩) 3 cx [(pa0 : Int), (pa1 : Int), (pa2 : Int)]) (hF : Ii w (some ⟨tf, uf, none⟩) 1 cf [(fa0 : Int)]) (hpa0 : pa0 < np) (epa0 : ps pa0 = PA0) (hpa1 : pa1 < np) (epa1 : ps pa1 = PA1) (hpa2 : pa2 < np) (epa2 : ps pa2 = PA2) (hfa0 : fa0 < nq) (efa0 : qs fa0 = FA0) (hk0 : PA0.kind = 1) (hk1 : PA1.kind = 2) (hk2 : PA2.kind = 1) :
  Calls Try.prog 54 #[.agg #[.slice (some ⟨bp, oP, none⟩) np cp, .slice (some ⟨bq, oq, none⟩) nq cq], .agg #[.slice (some ⟨tx, ux, none⟩) 3 cx, .slice (some ⟨tf, uf, none⟩) 1 cf]] w (fun e w' => e = .returned (.int .i64 0) ∧ Below w.heap.size w w') := by
 have hwX : within 0 ((np : Int) - 1) [(pa0 : Int), (pa1 : Int), (pa2 : Int)] = true := by simp [within]; omega
 have hwF : within 0 ((nq : Int) - 1) [(fa0 : Int)] = true := by simp [within]; omega
 refine calls_fr Try.func54 Try.ntmps54 rfl rfl fun g hg => ?_
 have k0 : g 0 = .agg #[.slice (some ⟨bp, oP, none⟩) np cp, .slice (some ⟨bq, oq, none⟩) nq cq] := hg 0
 have k1 : g 1 = .agg #[.slice (some ⟨tx, ux, none⟩) 3 cx, .slice (some ⟨tf, uf, none⟩) 1 cf] := hg 1
 clear hg
 have fB0 : Below w.heap.size w w := Below.refl _ _
 refine rw_ 3 [(2, 0), (3, 1), (4, 2)] [[], [], []] (rel [bx 0 #[.slice (some ⟨bp, oP, none⟩) np cp, .slice (some ⟨bq, oq, none⟩) nq cq] 68, bx 1 #[.slice (some ⟨tx, ux, none⟩) 3 cx, .slice (some ⟨tf, uf, none⟩) 1 cf] 71, iI 0])
  ⟨fun f s W c d j k l a => opb rfl rfl (by simp [go_sem, a.e 0 k0]),
  fun f s W c d j k l a => opb rfl rfl (by simp [go_sem, a.e 1 k1]),
  fun f s W c d j k l a => opz, trivial⟩ ?_
 intro f1 s1 W1 hB1 g1 hg1 z1
 have fB1 := hB1.f fB0
 obtain ⟨r1_0, br1_0⟩ := hB1.is 0
 have lr1_0 := hB1.lr 0 br1_0
 obtain ⟨r1_1, br1_1⟩ := hB1.is 1
 have lr1_1 := hB1.lr 1 br1_1
 have ne1_0_1 := hB1.nb 0 1
 have k1_2 := kt hg1 2 r1_0
 refine wp_seq_k fun K2 hK2 => ?_
 refine rw_ 3 [(8, 0), (9, 1), (5, 2)] [[], [0], [1]] (rel [is (.agg #[.slice (some ⟨bp, oP, none⟩) np cp, .slice (some ⟨bq, oq, none⟩) nq cq]), iI 0, iI 0])
  ⟨fun f s W c d j k l a => opv rfl rfl (by simp [go_sem, a.e 2 k1_2, cb br1_0 c 0, cb br1_0 c 1]) rfl,
  fun f s W c d j k l a => by have m := bwt fB1 c; exact opc rfl rfl (by simp [go_sem, a.e 8 (d 0 rfl)]) (boCheck_ok ps qs bp oP np cp bq oq nq cq W (hP.below m) (hQ.below m) hpi hqi np1 np8 nq1 nq4),
  fun f s W c d j k l a => opm (a.v 9 (d 1 rfl)), trivial⟩ ?_
 intro f2 s2 W2 hB2 g2 hg2 z2
 have k2_5 := kt hg2 5 (hB2.is 2)
 refine rw_ 2 [(10, 0), (11, 1)] [[], [0]] (rel [iI 0, iB false])
  ⟨fun f s W c d j k l a => opm (a.v 5 k2_5),
  fun f s W c d j k l a => opv rfl rfl (by simp [go_sem, a.e 10 (d 0 rfl)]) rfl, trivial⟩ ?_
 intro f3 s3 W3 hB3 g3 hg3 z3
 have b3_1 := hB3.b (hB2.b br1_1)
 have k3_3 := kt hg3 3 (kt hg2 3 (kt hg1 3 r1_1))
 have k3_11 := kt hg3 11 (hB3.is 1)
 refine wp_cond_false ((fr_eval rfl).trans k3_11) ?_
 refine wp_skip ?_
 refine hK2 _ _ ?_
 refine wp_seq_k fun K6 hK6 => ?_
 refine wp_block ?_
 refine rw_ 4 [(14, 0), (15, 1), (16, 2), (13, 3)] [[], [0], [1], [2]] (rel [is (.agg #[.slice (some ⟨tx, ux, none⟩) 3 cx, .slice (some ⟨tf, uf, none⟩) 1 cf]), iB true, iB false, iB false])
  ⟨fun f s W c d j k l a => opv rfl rfl (by simp [go_sem, a.e 3 k3_3, cb b3_1 c 0, cb b3_1 c 1]) rfl,
  fun f s W c d j k l a => opc (args := #[.agg #[.slice (some ⟨tx, ux, none⟩) 3 cx, .slice (some ⟨tf, uf, none⟩) 1 cf]]) rfl rfl (by simp [go_sem, a.e 14 (d 0 rfl)]) (isForm_1 _ _ cx cf W),
  fun f s W c d j k l a => opv rfl rfl (by simp [go_sem, a.e 15 (d 1 rfl)]) rfl,
  fun f s W c d j k l a => opm (a.v 16 (d 2 rfl)), trivial⟩ ?_
 intro f4 s4 W4 hB4 g4 hg4 z4
 have fB4 := hB4.f (hB3.f (hB2.f fB1))
 have b4_0 := hB4.b (hB3.b (hB2.b br1_0))
 have b4_1 := hB4.b b3_1
 have k4_2 := kt hg4 2 (kt hg3 2 (kt hg2 2 k1_2))
 have k4_3 := kt hg4 3 k3_3
 have k4_13 := kt hg4 13 (hB4.is 3)
 refine wp_cond_false ((fr_eval rfl).trans k4_13) ?_
 refine wp_seq_k fun K9 hK9 => ?_
 refine rw_ 9 [(18, 0), (19, 1), (20, 2), (21, 3), (22, 4), (23, 5), (24, 6), (25, 7), (17, 8)] [[], [0], [1], [2], [], [4], [3, 5], [6], [7]] (rel [is (.pointer (some ⟨(s1 0), 0, none⟩)), is (.slice (some ⟨bp, oP, none⟩) np cp), iI ((np : Int)), iI ((np : Int) - 1), is (.pointer (some ⟨(s1 1), 0, none⟩)), is (.slice (some ⟨tx, ux, none⟩) 3 cx), iB true, iB false, iB false])
  ⟨fun f s W c d j k l a => opv rfl rfl (by simp [go_sem, a.e 2 k4_2]) rfl,
  fun f s W c d j k l a => opv rfl rfl (by simp [go_sem, a.e 18 (d 0 rfl), cb b4_0 c 0]) rfl,
  fun f s W c d j k l a => opv rfl rfl (by simp [go_sem, a.e 19 (d 1 rfl)]) rfl,
  fun f s W c d j k l a => opv rfl rfl (by simp [go_sem, a.e 20 (d 2 rfl), IntWalk.i64_in ((np : Int) - 1) (by omega)]) rfl,
  fun f s W c d j k l a => opv rfl rfl (by simp [go_sem, a.e 3 k4_3]) rfl,
  fun f s W c d j k l a => opv rfl rfl (by simp [go_sem, a.e 22 (d 4 rfl), cb b4_1 c 0]) rfl,
  fun f s W c d j k l a => by have m := bwt fB4 c; exact opd (args := #[.int .i64 0, .int .i64 ((np : Int) - 1), .slice (some ⟨tx, ux, none⟩) 3 cx]) rfl rfl (by simp [go_sem, a.e 21 (d 3 rfl), a.e 23 (d 5 rfl)]) (bo_within_any 0 ((np : Int) - 1) _ 3 cx [(pa0 : Int), (pa1 : Int), (pa2 : Int)] W (hX.below m (Nat.le_refl _))) ((fun e W' h => by have h1 := h.1; rw [hwX] at h1; exact ⟨_, h1, h.2, rfl⟩)),
  fun f s W c d j k l a => opv rfl rfl (by simp [go_sem, a.e 24 (d 6 rfl)]) rfl,
  fun f s W c d j k l a => opm (a.v 25 (d 7 rfl)), trivial⟩ ?_
 intro f5 s5 W5 hB5 g5 hg5 z5
 have fB5 := hB5.f fB4
 have b5_0 := hB5.b b4_0
 have b5_1 := hB5.b b4_1
 have k5_2 := kt hg5 2 k4_2
 have k5_3 := kt hg5 3 k4_3
 have k5_17 := kt hg5 17 (hB5.is 8)
 refine wp_cond_false ((fr_eval rfl).trans k5_17) ?_
 refine ry 9 [(26, 0), (27, 1), (28, 2), (29, 3), (30, 4), (31, 5), (32, 6), (33, 7), (17, 8)] [[], [0], [1], [2], [], [4], [3, 5], [6], [7]] (rel [is (.pointer (some ⟨(s1 0), 1, none⟩)), is (.slice (some ⟨bq, oq, none⟩) nq cq), iI ((nq : Int)), iI ((nq : Int) - 1), is (.pointer (some ⟨(s1 1), 1, none⟩)), is (.slice (some ⟨tf, uf, none⟩) 1 cf), iB true, iB false, iB false])
  ⟨fun f s W c d j k l a => opv rfl rfl (by simp [go_sem, a.e 2 k5_2]) rfl,
  fun f s W c d j k l a => opv rfl rfl (by simp [go_sem, a.e 26 (d 0 rfl), cb b5_0 c 1]) rfl,
  fun f s W c d j k l a => opv rfl rfl (by simp [go_sem, a.e 27 (d 1 rfl)]) rfl,
  fun f s W c d j k l a => opv rfl rfl (by simp [go_sem, a.e 28 (d 2 rfl), IntWalk.i64_in ((nq : Int) - 1) (by omega)]) rfl,
  fun f s W c d j k l a => opv rfl rfl (by simp [go_sem, a.e 3 k5_3]) rfl,
  fun f s W c d j k l a => opv rfl rfl (by simp [go_sem, a.e 30 (d 4 rfl), cb b5_1 c 1]) rfl,
  fun f s W c d j k l a => by have m := bwt fB5 c; exact opd (args := #[.int .i64 0, .int .i64 ((nq : Int) - 1), .slice (some ⟨tf, uf, none⟩) 1 cf]) rfl rfl (by simp [go_sem, a.e 29 (d 3 rfl), a.e 31 (d 5 rfl)]) (bo_within_any 0 ((nq : Int) - 1) _ 1 cf [(fa0 : Int)] W (hF.below m (Nat.le_refl _))) ((fun e W' h => by have h1 := h.1; rw [hwF] at h1; exact ⟨_, h1, h.2, rfl⟩)),
  fun f s W c d j k l a => opv rfl rfl (by simp [go_sem, a.e 32 (d 6 rfl)]) rfl,
  fun f s W c d j k l a => opm (a.v 33 (d 7 rfl)), trivial⟩ ?_
 intro f6 s6 W6 hB6 g6 hg6 z6
 have b6_1 := hB6.b b5_1
 refine hK9 _ _ ?_
 have k6_3 := kt hg6 3 k5_3
 have k6_17 := kt hg6 17 (hB6.is 8)
 refine wp_cond_false ((fr_eval rfl).trans k6_17) ?_
 refine wp_skip ?_
 refine ibn ?_
 refine hK6 _ _ ?_
 refine wp_seq_k fun K13 hK13 => ?_
 refine rx 6 [(34, 0), (35, 1), (36, 2), (37, 3), (38, 4), (39, 5)] [[], [0], [1], [2], [3], []] (rel [is (.pointer (some ⟨(s1 1), 1, none⟩)), is (.slice (some ⟨tf, uf, none⟩) 1 cf), iI 1, ab fun v W => IsKi 3 [1, 2, 1] v W, iI 3, iI 0])
  ⟨is_k, is_k, is_k, ab_k fun v W W' hb h => h.below hb, is_k, is_k, trivial⟩
  ⟨fun f s W c d j k l a => opv rfl rfl (by simp [go_sem, a.e 3 k6_3]) rfl,
  fun f s W c d j k l a => opv rfl rfl (by simp [go_sem, a.e 34 (d 0 rfl), cb b6_1 c 1]) rfl,
  fun f s W c d j k l a => opv rfl rfl (by simp [go_sem, a.e 35 (d 1 rfl)]) rfl,
  fun f s W c d j k l a => opd rfl rfl (by simp [go_sem, a.e 36 (d 2 rfl)]) (kinds_1 W) ((fun e W' h => by obtain ⟨v, e1, h1, h2⟩ := h; exact ⟨_, e1, h2, h1⟩)),
  fun f s W c d j k l a => by obtain ⟨a19', c20', d3, q21'⟩ := (d 3 rfl); exact opv rfl rfl (by simp [go_sem, a.e 37 d3]) rfl,
  fun f s W c d j k l a => opz, trivial⟩ ?_
 intro f7 s7 W7 hB7 g7 hg7 z7
 obtain ⟨a22', c23', r7_3, q24'⟩ := hB7.is 3
 have k7_38 := kt hg7 38 (hB7.is 4)
 have k7_39 := kt hg7 39 (hB7.is 5)
 refine wp_block ?_
 refine wp_loop_rounds 4 ?_
 rw [rounds_succ]
 refine rw_ 1 [(40, 0)] [[]] (rel [iB true])
  ⟨fun f s W c d j k l a => opv rfl rfl (by simp [go_sem, a.e 39 k7_39, a.e 38 k7_38]) rfl, trivial⟩ ?_
 intro f8 s8 W8 hB8 g8 hg8 z8
 have q25' := (q24'.bw hB8)
 have k8_37 := kt hg8 37 (kt hg7 37 r7_3)
 have k8_39 := kt hg8 39 k7_39
 have k8_40 := kt hg8 40 (hB8.is 0)
 refine wp_seq_k fun K16 hK16 => ?_
 refine wp_cond_true ((fr_eval rfl).trans k8_40) ?_
 refine wp_skip ?_
 refine hK16 _ _ ?_
 refine wp_seq_k fun K18 hK18 => ?_
 refine wp_block ?_
 refine rw_ 5 [(41, 0), (42, 1), (43, 2), (6, 3), (7, 4)] [[], [], [1], [0], [2]] (rel [iI 0, is (.pointer (some ⟨a22', 0, none⟩)), iI 1, iI 0, iI 1])
  ⟨fun f s W c d j k l a => opm (a.v 39 k8_39),
  fun f s W c d j k l a => opv rfl rfl (by simp [go_sem, a.e 37 k8_37, a.e 39 k8_39]) rfl,
  fun f s W c d j k l a => by have cu : W.cell? ⟨a22', 0, none⟩ = some (.int .i64 1) := (by have := ii_cell (q25'.below c (Nat.le_refl _)) 0 (by decide); rw [Nat.zero_add] at this; exact this); exact opv rfl rfl (by simp [go_sem, a.e 42 (d 1 rfl), cu]) rfl,
  fun f s W c d j k l a => opm (a.v 41 (d 0 rfl)),
  fun f s W c d j k l a => opm (a.v 43 (d 2 rfl)), trivial⟩ ?_
 intro f9 s9 W9 hB9 g9 hg9 z9
 have fB9 := hB9.f (hB8.f (hB7.f (hB6.f fB5)))
 have b9_0 := hB9.b (hB8.b (hB7.b (hB6.b b5_0)))
 have b9_1 := hB9.b (hB8.b (hB7.b b6_1))
 have q26' := (q25'.bw hB9)
 have k9_2 := kt hg9 2 (kt hg8 2 (kt hg7 2 (kt hg6 2 k5_2)))
 have k9_3 := kt hg9 3 (kt hg8 3 (kt hg7 3 k6_3))
 have k9_6 := kt hg9 6 (hB9.is 3)
 have k9_7 := kt hg9 7 (hB9.is 4)
 refine rw_ 12 [(44, 0), (45, 1), (46, 2), (47, 3), (48, 4), (49, 5), (50, 6), (51, 7), (52, 8), (53, 9), (54, 10), (55, 11)] [[], [0], [], [2], [], [3, 4], [5], [1, 6], [7], [8], [], [9, 10]] (rel [is (.pointer (some ⟨(s1 0), 0, none⟩)), is (.slice (some ⟨bp, oP, none⟩) np cp), is (.pointer (some ⟨(s1 1), 0, none⟩)), is (.slice (some ⟨tx, ux, none⟩) 3 cx), iI 0, is (.pointer (some ⟨tx, ux, none⟩)), iI ((pa0 : Int)), is (.pointer (some ⟨bp, oP + pa0 * 8, none⟩)), is (.pointer (some ⟨bp, oP + pa0 * 8, none⟩)), iI PA0.kind, iI 1, iB false])
  ⟨fun f s W c d j k l a => opv rfl rfl (by simp [go_sem, a.e 2 k9_2]) rfl,
  fun f s W c d j k l a => opv rfl rfl (by simp [go_sem, a.e 44 (d 0 rfl), cb b9_0 c 0]) rfl,
  fun f s W c d j k l a => opv rfl rfl (by simp [go_sem, a.e 3 k9_3]) rfl,
  fun f s W c d j k l a => opv rfl rfl (by simp [go_sem, a.e 46 (d 2 rfl), cb b9_1 c 0]) rfl,
  fun f s W c d j k l a => opm (a.v 6 k9_6),
  fun f s W c d j k l a => opv rfl rfl (by simp [go_sem, a.e 47 (d 3 rfl), a.e 48 (d 4 rfl)]) rfl,
  fun f s W c d j k l a => by have m := bwt fB9 c; have cu : W.cell? ⟨tx, ux, none⟩ = some (.int .i64 (pa0 : Int)) := ii_cell (hX.below m (Nat.le_refl _)) 0 (by simp); exact opv rfl rfl (by simp [go_sem, a.e 49 (d 5 rfl), cu]) rfl,
  fun f s W c d j k l a => by have li_ := Nat.not_le.2 hpa0; have lz_ : (pa0 : Int) < (np : Int) := (by omega); exact opv rfl rfl (by simp [go_sem, a.e 45 (d 1 rfl), a.e 50 (d 6 rfl), li_, hpa0, lz_]) rfl,
  fun f s W c d j k l a => opv rfl rfl (by simp [go_sem, a.e 51 (d 7 rfl)]) rfl,
  fun f s W c d j k l a => by have m := bwt fB9 c; have E_ := (hP.below m).2 pa0 hpa0; rw [epa0] at E_; obtain ⟨u0_, u1_, u2_, u3_, u4_, u5_, u6_, u7_⟩ := E_; have v0_ : W.cell? ⟨bp, oP + pa0 * 8, none⟩ = some (.int .i64 PA0.kind) := u0_; exact opv rfl rfl (by simp [go_sem, a.e 52 (d 8 rfl), v0_]) rfl,
  fun f s W c d j k l a => opm (a.v 7 k9_7),
  fun f s W c d j k l a => opv rfl rfl (by simp [go_sem, a.e 53 (d 9 rfl), a.e 54 (d 10 rfl), hk0]) rfl, trivial⟩ ?_
 intro f10 s10 W10 hB10 g10 hg10 z10
 have q27' := (q26'.bw hB10)
 have k10_39 := kt hg10 39 (kt hg9 39 k8_39)
 have k10_55 := kt hg10 55 (hB10.is 11)
 refine wp_cond_false ((fr_eval rfl).trans k10_55) ?_
 refine wp_skip ?_
 refine ibn ?_
 refine hK18 _ _ ?_
 refine ry 2 [(56, 0), (39, 1)] [[], [0]] (rel [iI 1, iI 1])
  ⟨fun f s W c d j k l a => opv rfl rfl (by simp [go_sem, a.e 39 ((k 1 39 rfl rfl).trans k10_39), IntWalk.i64_in (1) (by omega)]) rfl,
  fun f s W c d j k l a => opm (a.v 56 (d 0 rfl)), trivial⟩ ?_
 intro f11 s11 W11 hB11 g11 hg11 z11
 have q28' := (q27'.bw hB11)
 refine wpe ?_
 have k11_38 := kt hg11 38 (kt hg10 38 (kt hg9 38 (kt hg8 38 k7_38)))
 have k11_39 := kt hg11 39 (hB11.is 1)
 refine then_normal ?_
 rw [rounds_succ]
 refine rw_ 1 [(40, 0)] [[]] (rel [iB true])
  ⟨fun f s W c d j k l a => opv rfl rfl (by simp [go_sem, a.e 39 k11_39, a.e 38 k11_38]) rfl, trivial⟩ ?_
 intro f12 s12 W12 hB12 g12 hg12 z12
 have q29' := (q28'.bw hB12)
 have k12_37 := kt hg12 37 (kt hg11 37 (kt hg10 37 (kt hg9 37 k8_37)))
 have k12_39 := kt hg12 39 k11_39
 have k12_40 := kt hg12 40 (hB12.is 0)
 refine wp_seq_k fun K23 hK23 => ?_
 refine wp_cond_true ((fr_eval rfl).trans k12_40) ?_
 refine wp_skip ?_
 refine hK23 _ _ ?_
 refine wp_seq_k fun K25 hK25 => ?_
 refine wp_block ?_
 refine rw_ 5 [(41, 0), (42, 1), (43, 2), (6, 3), (7, 4)] [[], [], [1], [0], [2]] (rel [iI 1, is (.pointer (some ⟨a22', 1, none⟩)), iI 2, iI 1, iI 2])
  ⟨fun f s W c d j k l a => opm (a.v 39 k12_39),
  fun f s W c d j k l a => opv rfl rfl (by simp [go_sem, a.e 37 k12_37, a.e 39 k12_39]) rfl,
  fun f s W c d j k l a => by have cu : W.cell? ⟨a22', 1, none⟩ = some (.int .i64 2) := (by have := ii_cell (q29'.below c (Nat.le_refl _)) 1 (by decide); rw [Nat.zero_add] at this; exact this); exact opv rfl rfl (by simp [go_sem, a.e 42 (d 1 rfl), cu]) rfl,
  fun f s W c d j k l a => opm (a.v 41 (d 0 rfl)),
  fun f s W c d j k l a => opm (a.v 43 (d 2 rfl)), trivial⟩ ?_
 intro f13 s13 W13 hB13 g13 hg13 z13
 have fB13 := hB13.f (hB12.f (hB11.f (hB10.f fB9)))
 have b13_0 := hB13.b (hB12.b (hB11.b (hB10.b b9_0)))
 have b13_1 := hB13.b (hB12.b (hB11.b (hB10.b b9_1)))
 have q30' := (q29'.bw hB13)
 have k13_2 := kt hg13 2 (kt hg12 2 (kt hg11 2 (kt hg10 2 k9_2)))
 have k13_3 := kt hg13 3 (kt hg12 3 (kt hg11 3 (kt hg10 3 k9_3)))
 have k13_6 := kt hg13 6 (hB13.is 3)
 have k13_7 := kt hg13 7 (hB13.is 4)
 refine rw_ 12 [(44, 0), (45, 1), (46, 2), (47, 3), (48, 4), (49, 5), (50, 6), (51, 7), (52, 8), (53, 9), (54, 10), (55, 11)] [[], [0], [], [2], [], [3, 4], [5], [1, 6], [7], [8], [], [9, 10]] (rel [is (.pointer (some ⟨(s1 0), 0, none⟩)), is (.slice (some ⟨bp, oP, none⟩) np cp), is (.pointer (some ⟨(s1 1), 0, none⟩)), is (.slice (some ⟨tx, ux, none⟩) 3 cx), iI 1, is (.pointer (some ⟨tx, ux + 1, none⟩)), iI ((pa1 : Int)), is (.pointer (some ⟨bp, oP + pa1 * 8, none⟩)), is (.pointer (some ⟨bp, oP + pa1 * 8, none⟩)), iI PA1.kind, iI 2, iB false])
  ⟨fun f s W c d j k l a => opv rfl rfl (by simp [go_sem, a.e 2 k13_2]) rfl,
  fun f s W c d j k l a => opv rfl rfl (by simp [go_sem, a.e 44 (d 0 rfl), cb b13_0 c 0]) rfl,
  fun f s W c d j k l a => opv rfl rfl (by simp [go_sem, a.e 3 k13_3]) rfl,
  fun f s W c d j k l a => opv rfl rfl (by simp [go_sem, a.e 46 (d 2 rfl), cb b13_1 c 0]) rfl,
  fun f s W c d j k l a => opm (a.v 6 k13_6),
  fun f s W c d j k l a => opv rfl rfl (by simp [go_sem, a.e 47 (d 3 rfl), a.e 48 (d 4 rfl)]) rfl,
  fun f s W c d j k l a => by have m := bwt fB13 c; have cu : W.cell? ⟨tx, ux + 1, none⟩ = some (.int .i64 (pa1 : Int)) := ii_cell (hX.below m (Nat.le_refl _)) 1 (by simp); exact opv rfl rfl (by simp [go_sem, a.e 49 (d 5 rfl), cu]) rfl,
  fun f s W c d j k l a => by have li_ := Nat.not_le.2 hpa1; have lz_ : (pa1 : Int) < (np : Int) := (by omega); exact opv rfl rfl (by simp [go_sem, a.e 45 (d 1 rfl), a.e 50 (d 6 rfl), li_, hpa1, lz_]) rfl,
  fun f s W c d j k l a => opv rfl rfl (by simp [go_sem, a.e 51 (d 7 rfl)]) rfl,
  fun f s W c d j k l a => by have m := bwt fB13 c; have E_ := (hP.below m).2 pa1 hpa1; rw [epa1] at E_; obtain ⟨u0_, u1_, u2_, u3_, u4_, u5_, u6_, u7_⟩ := E_; have v0_ : W.cell? ⟨bp, oP + pa1 * 8, none⟩ = some (.int .i64 PA1.kind) := u0_; exact opv rfl rfl (by simp [go_sem, a.e 52 (d 8 rfl), v0_]) rfl,
  fun f s W c d j k l a => opm (a.v 7 k13_7),
  fun f s W c d j k l a => opv rfl rfl (by simp [go_sem, a.e 53 (d 9 rfl), a.e 54 (d 10 rfl), hk1]) rfl, trivial⟩ ?_
 intro f14 s14 W14 hB14 g14 hg14 z14
 have q31' := (q30'.bw hB14)
 have k14_39 := kt hg14 39 (kt hg13 39 k12_39)
 have k14_55 := kt hg14 55 (hB14.is 11)
 refine wp_cond_false ((fr_eval rfl).trans k14_55) ?_
 refine wp_skip ?_
 refine ibn ?_
 refine hK25 _ _ ?_
 refine ry 2 [(56, 0), (39, 1)] [[], [0]] (rel [iI 2, iI 2])
  ⟨fun f s W c d j k l a => opv rfl rfl (by simp [go_sem, a.e 39 ((k 1 39 rfl rfl).trans k14_39), IntWalk.i64_in (2) (by omega)]) rfl,
  fun f s W c d j k l a => opm (a.v 56 (d 0 rfl)), trivial⟩ ?_
 intro f15 s15 W15 hB15 g15 hg15 z15
 have q32' := (q31'.bw hB15)
 refine wpe ?_
 have k15_38 := kt hg15 38 (kt hg14 38 (kt hg13 38 (kt hg12 38 k11_38)))
 have k15_39 := kt hg15 39 (hB15.is 1)
 refine then_normal ?_
 rw [rounds_succ]
 refine rw_ 1 [(40, 0)] [[]] (rel [iB true])
  ⟨fun f s W c d j k l a => opv rfl rfl (by simp [go_sem, a.e 39 k15_39, a.e 38 k15_38]) rfl, trivial⟩ ?_
 intro f16 s16 W16 hB16 g16 hg16 z16
 have q33' := (q32'.bw hB16)
 have k16_37 := kt hg16 37 (kt hg15 37 (kt hg14 37 (kt hg13 37 k12_37)))
 have k16_39 := kt hg16 39 k15_39
 have k16_40 := kt hg16 40 (hB16.is 0)
 refine wp_seq_k fun K30 hK30 => ?_
 refine wp_cond_true ((fr_eval rfl).trans k16_40) ?_
 refine wp_skip ?_
 refine hK30 _ _ ?_
 refine wp_seq_k fun K32 hK32 => ?_
 refine wp_block ?_
 refine rw_ 5 [(41, 0), (42, 1), (43, 2), (6, 3), (7, 4)] [[], [], [1], [0], [2]] (rel [iI 2, is (.pointer (some ⟨a22', 2, none⟩)), iI 1, iI 2, iI 1])
  ⟨fun f s W c d j k l a => opm (a.v 39 k16_39),
  fun f s W c d j k l a => opv rfl rfl (by simp [go_sem, a.e 37 k16_37, a.e 39 k16_39]) rfl,
  fun f s W c d j k l a => by have cu : W.cell? ⟨a22', 2, none⟩ = some (.int .i64 1) := (by have := ii_cell (q33'.below c (Nat.le_refl _)) 2 (by decide); rw [Nat.zero_add] at this; exact this); exact opv rfl rfl (by simp [go_sem, a.e 42 (d 1 rfl), cu]) rfl,
  fun f s W c d j k l a => opm (a.v 41 (d 0 rfl)),
  fun f s W c d j k l a => opm (a.v 43 (d 2 rfl)), trivial⟩ ?_
 intro f17 s17 W17 hB17 g17 hg17 z17
 have fB17 := hB17.f (hB16.f (hB15.f (hB14.f fB13)))
 have b17_0 := hB17.b (hB16.b (hB15.b (hB14.b b13_0)))
 have b17_1 := hB17.b (hB16.b (hB15.b (hB14.b b13_1)))
 have q34' := (q33'.bw hB17)
 have k17_2 := kt hg17 2 (kt hg16 2 (kt hg15 2 (kt hg14 2 k13_2)))
 have k17_3 := kt hg17 3 (kt hg16 3 (kt hg15 3 (kt hg14 3 k13_3)))
 have k17_6 := kt hg17 6 (hB17.is 3)
 have k17_7 := kt hg17 7 (hB17.is 4)
 refine rw_ 12 [(44, 0), (45, 1), (46, 2), (47, 3), (48, 4), (49, 5), (50, 6), (51, 7), (52, 8), (53, 9), (54, 10), (55, 11)] [[], [0], [], [2], [], [3, 4], [5], [1, 6], [7], [8], [], [9, 10]] (rel [is (.pointer (some ⟨(s1 0), 0, none⟩)), is (.slice (some ⟨bp, oP, none⟩) np cp), is (.pointer (some ⟨(s1 1), 0, none⟩)), is (.slice (some ⟨tx, ux, none⟩) 3 cx), iI 2, is (.pointer (some ⟨tx, ux + 2, none⟩)), iI ((pa2 : Int)), is (.pointer (some ⟨bp, oP + pa2 * 8, none⟩)), is (.pointer (some ⟨bp, oP + pa2 * 8, none⟩)), iI PA2.kind, iI 1, iB false])
  ⟨fun f s W c d j k l a => opv rfl rfl (by simp [go_sem, a.e 2 k17_2]) rfl,
  fun f s W c d j k l a => opv rfl rfl (by simp [go_sem, a.e 44 (d 0 rfl), cb b17_0 c 0]) rfl,
  fun f s W c d j k l a => opv rfl rfl (by simp [go_sem, a.e 3 k17_3]) rfl,
  fun f s W c d j k l a => opv rfl rfl (by simp [go_sem, a.e 46 (d 2 rfl), cb b17_1 c 0]) rfl,
  fun f s W c d j k l a => opm (a.v 6 k17_6),
  fun f s W c d j k l a => opv rfl rfl (by simp [go_sem, a.e 47 (d 3 rfl), a.e 48 (d 4 rfl)]) rfl,
  fun f s W c d j k l a => by have m := bwt fB17 c; have cu : W.cell? ⟨tx, ux + 2, none⟩ = some (.int .i64 (pa2 : Int)) := ii_cell (hX.below m (Nat.le_refl _)) 2 (by simp); exact opv rfl rfl (by simp [go_sem, a.e 49 (d 5 rfl), cu]) rfl,
  fun f s W c d j k l a => by have li_ := Nat.not_le.2 hpa2; have lz_ : (pa2 : Int) < (np : Int) := (by omega); exact opv rfl rfl (by simp [go_sem, a.e 45 (d 1 rfl), a.e 50 (d 6 rfl), li_, hpa2, lz_]) rfl,
  fun f s W c d j k l a => opv rfl rfl (by simp [go_sem, a.e 51 (d 7 rfl)]) rfl,
  fun f s W c d j k l a => by have m := bwt fB17 c; have E_ := (hP.below m).2 pa2 hpa2; rw [epa2] at E_; obtain ⟨u0_, u1_, u2_, u3_, u4_, u5_, u6_, u7_⟩ := E_; have v0_ : W.cell? ⟨bp, oP + pa2 * 8, none⟩ = some (.int .i64 PA2.kind) := u0_; exact opv rfl rfl (by simp [go_sem, a.e 52 (d 8 rfl), v0_]) rfl,
  fun f s W c d j k l a => opm (a.v 7 k17_7),
  fun f s W c d j k l a => opv rfl rfl (by simp [go_sem, a.e 53 (d 9 rfl), a.e 54 (d 10 rfl), hk2]) rfl, trivial⟩ ?_
 intro f18 s18 W18 hB18 g18 hg18 z18
 have q35' := (q34'.bw hB18)
 have k18_39 := kt hg18 39 (kt hg17 39 k16_39)
 have k18_55 := kt hg18 55 (hB18.is 11)
 refine wp_cond_false ((fr_eval rfl).trans k18_55) ?_
 refine wp_skip ?_
 refine ibn ?_
 refine hK32 _ _ ?_
 refine ry 2 [(56, 0), (39, 1)] [[], [0]] (rel [iI 3, iI 3])
  ⟨fun f s W c d j k l a => opv rfl rfl (by simp [go_sem, a.e 39 ((k 1 39 rfl rfl).trans k18_39), IntWalk.i64_in (3) (by omega)]) rfl,
  fun f s W c d j k l a => opm (a.v 56 (d 0 rfl)), trivial⟩ ?_
 intro f19 s19 W19 hB19 g19 hg19 z19
 have q36' := (q35'.bw hB19)
 refine wpe ?_
 have k19_38 := kt hg19 38 (kt hg18 38 (kt hg17 38 (kt hg16 38 k15_38)))
 have k19_39 := kt hg19 39 (hB19.is 1)
 refine then_normal ?_
 rw [rounds_succ]
 refine rw_ 1 [(40, 0)] [[]] (rel [iB false])
  ⟨fun f s W c d j k l a => opv rfl rfl (by simp [go_sem, a.e 39 k19_39, a.e 38 k19_38]) rfl, trivial⟩ ?_
 intro f20 s20 W20 hB20 g20 hg20 z20
 have q37' := (q36'.bw hB20)
 have k20_40 := kt hg20 40 (hB20.is 0)
 refine wp_seq_k fun K37 hK37 => ?_
 refine wp_cond_false ((fr_eval rfl).trans k20_40) ?_
 refine wp_exit ?_
 refine then_exit ?_
 refine then_exit ?_
 refine inBlock_at ?_
 refine hK13 _ _ ?_
 refine rw_ 1 [(4, 0)] [[]] (rel [iI 0])
  ⟨fun f s W c d j k l a => opz, trivial⟩ ?_
 intro f21 s21 W21 hB21 g21 hg21 z21
 have fB21 := hB21.f (hB20.f (hB19.f (hB18.f fB17)))
 have q38' := (q37'.bw hB21)
 have k21_4 := kt hg21 4 (hB21.is 0)
 refine wp_ret ?_
 refine leave_one (N := 57) (.inr rfl) Try.results54 rfl k21_4 ?_
 exact ⟨rfl, fB21⟩
theorem isForm_2 (ax af : Option Addr) (cx cf : Nat) (w : World) :
  Calls Try.prog 79 #[.agg #[.slice ax 5 cx, .slice af 2 cf]] w (fun e w' => e = .returned (.bool true) ∧ Below w.heap.size w w') := by
 refine calls_fr Try.func79 Try.ntmps79 rfl rfl fun g hg => ?_
 have k0 : g 0 = .agg #[.slice ax 5 cx, .slice af 2 cf] := hg 0
 clear hg
 have fB0 : Below w.heap.size w w := Below.refl _ _
 refine rw_ 2 [(1, 0), (2, 1)] [[], []] (rel [bx 0 #[.slice ax 5 cx, .slice af 2 cf] 71, iB false])
  ⟨fun f s W i j k l m a => opb rfl rfl (by simp [go_sem, a.e 0 k0]),
  fun f s W i j k l m a => opz, trivial⟩ ?_
 intro f1 s1 W1 hB1 g1 hg1 z1
 obtain ⟨r1_0, br1_0⟩ := hB1.is 0
 have lr1_0 := hB1.lr 0 br1_0
 have k1_1 := kt hg1 1 r1_0
 refine rx 17 [(3, 0), (4, 1), (5, 2), (6, 3), (7, 4), (8, 5), (9, 6), (10, 7), (11, 8), (12, 9), (13, 10), (14, 11), (15, 12), (16, 13), (17, 14), (18, 15), (2, 16)] [[], [0], [1], [2], [3], [4], [5], [5, 6], [5, 7], [5], [5, 9], [5, 10], [5, 11], [5, 12], [5, 8, 13], [5, 14], [15]] (rel [is (.pointer (some ⟨(s1 0), 1, none⟩)), is (.slice af 2 cf), iI 2, row 3 1 #[.int .i64 2] 3, iB true, iB true, is (.pointer (some ⟨(s1 0), 0, none⟩)), is (.slice ax 5 cx), iI 5, is (.pointer (some ⟨(s1 0), 1, none⟩)), is (.slice af 2 cf), iI 2, ab fun v W => IsKi 5 [1, 2, 1, 2, 1] v W, iI 5, iB true, iB true, iB true])
  ⟨is_k, is_k, is_k, row_k, is_k, is_k, is_k, is_k, is_k, is_k, is_k, is_k, ab_k fun v W W' hb h => h.below hb, is_k, is_k, is_k, is_k, trivial⟩
  ⟨fun f s W i j k l m a => opv rfl rfl (by simp [go_sem, a.e 1 k1_1]) rfl,
  fun f s W i j k l m a => opv rfl rfl (by simp [go_sem, a.e 3 (j 0 rfl), cb br1_0 i 1]) rfl,
  fun f s W i j k l m a => opv rfl rfl (by simp [go_sem, a.e 4 (j 1 rfl)]) rfl,
  fun f s W i j k l m a => opr rfl rfl (by simp [go_sem, a.e 5 (j 2 rfl)]),
  fun f s W i j k l m a => opc (args := #[.int .i64 1, .int .i64 2, .slice (some ⟨(s 3), 0, none⟩) (1) (1)]) rfl rfl (by simp [go_sem, a.e 6 (j 3 rfl).1]) (bo_within_any 1 2 _ 1 1 [2] W (ii_block (xs := [2]) (j 3 rfl).2 rfl rfl)),
  fun f s W i j k l m a => opm (a.v 7 (j 4 rfl)),
  fun f s W i j k l m a => osure rfl rfl (a.says (d := 8) rfl rfl (j 5 rfl)) (gv (by simp [go_sem, a.e 1 k1_1]) rfl),
  fun f s W i j k l m a => osure rfl rfl (a.says (d := 8) rfl rfl (j 5 rfl)) (gv (by simp [go_sem, a.e 9 (j 6 rfl), cb br1_0 i 0]) rfl),
  fun f s W i j k l m a => osure rfl rfl (a.says (d := 8) rfl rfl (j 5 rfl)) (gv (by simp [go_sem, a.e 10 (j 7 rfl)]) rfl),
  fun f s W i j k l m a => osure rfl rfl (a.says (d := 8) rfl rfl (j 5 rfl)) (gv (by simp [go_sem, a.e 1 k1_1]) rfl),
  fun f s W i j k l m a => osure rfl rfl (a.says (d := 8) rfl rfl (j 5 rfl)) (gv (by simp [go_sem, a.e 12 (j 9 rfl), cb br1_0 i 1]) rfl),
  fun f s W i j k l m a => osure rfl rfl (a.says (d := 8) rfl rfl (j 5 rfl)) (gv (by simp [go_sem, a.e 13 (j 10 rfl)]) rfl),
  fun f s W i j k l m a => osure rfl rfl (a.says (d := 8) rfl rfl (j 5 rfl)) (wp_called (by simp [go_sem, a.e 14 (j 11 rfl)]) (kinds_2 W) ((fun e W' h => by obtain ⟨v, e1, h1, h2⟩ := h; exact ⟨_, e1, h2, h1⟩))),
  fun f s W i j k l m a => osure rfl rfl (a.says (d := 8) rfl rfl (j 5 rfl)) (by obtain ⟨a39', c40', d12, q41'⟩ := (j 12 rfl); exact gv (by simp [go_sem, a.e 15 d12]) rfl),
  fun f s W i j k l m a => osure rfl rfl (a.says (d := 8) rfl rfl (j 5 rfl)) (gv (by simp [go_sem, a.e 11 (j 8 rfl), a.e 16 (j 13 rfl)]) rfl),
  fun f s W i j k l m a => opk (c := true) rfl rfl (fun h => absurd h (by decide)) (fun _ => by simp [go_sem, a.e 8 (j 5 rfl), a.e 17 (j 14 rfl)]),
  fun f s W i j k l m a => opm (a.v 18 (j 15 rfl)), trivial⟩ ?_
 intro f2 s2 W2 hB2 g2 hg2 z2
 have fB2 := hB2.f (hB1.f fB0)
 obtain ⟨r2_3, br2_3⟩ := hB2.is 3
 have lr2_3 := hB2.lr 3 br2_3
 have k2_2 := kt hg2 2 (hB2.is 16)
 refine wp_ret ?_
 refine leave_one (N := 19) (.inr rfl) Try.results79 rfl k2_2 ?_
 exact ⟨rfl, fB2⟩
theorem made_2 (ps : Nat → Pa) (qs : Nat → Fu) (bp oP np cp bq oq nq cq : Nat) (tx ux cx tf uf cf pa0 pa1 pa2 pa3 pa4 fa0 fa1 : Nat) (PA0 PA1 PA2 PA3 PA4 : Pa) (FA0 FA1 : Fu) (w : World) (hP : PaR w bp oP np ps) (hQ : FuR w bq oq nq qs) (hpi : ∀ i, i < np → PaIn (ps i)) (hqi : ∀ i, i < nq → FuIn (qs i)) (np1 : 1 ≤ np) (np8 : np ≤ 8) (nq1 : 1 ≤ nq) (nq4 : nq ≤ 4) (hX : Ii w (some ⟨tx, ux, none⟩) 5 cx [(pa0 : Int), (pa1 : Int), (pa2 : Int), (pa3 : Int), (pa4 : Int)]) (hF : Ii w (some ⟨tf, uf, none⟩) 2 cf [(fa0 : Int), (fa1 : Int)]) (hpa0 : pa0 < np) (epa0 : ps pa0 = PA0) (hpa1 : pa1 < np) (epa1 : ps pa1 = PA1) (hpa2 : pa2 < np) (epa2 : ps pa2 = PA2) (hpa3 : pa3 < np) (epa3 : ps pa3 = PA3) (hpa4 : pa4 < np) (epa4 : ps pa4 = PA4) (hfa0 : fa0 < nq) (efa0 : qs fa0 = FA0) (hfa1 : fa1 < nq) (efa1 : qs fa1 = FA1) (hk0 : PA0.kind = 1) (hk1 : PA1.kind = 2) (hk2 : PA2.kind = 1) (hk3 : PA3.kind = 2) (hk4 : PA4.kind = 1) :
  Calls Try.prog 54 #[.agg #[.slice (some ⟨bp, oP, none⟩) np cp, .slice (some ⟨bq, oq, none⟩) nq cq], .agg #[.slice (some ⟨tx, ux, none⟩) 5 cx, .slice (some ⟨tf, uf, none⟩) 2 cf]] w (fun e w' => e = .returned (.int .i64 0) ∧ Below w.heap.size w w') := by
 have hwX : within 0 ((np : Int) - 1) [(pa0 : Int), (pa1 : Int), (pa2 : Int), (pa3 : Int), (pa4 : Int)] = true := by simp [within]; omega
 have hwF : within 0 ((nq : Int) - 1) [(fa0 : Int), (fa1 : Int)] = true := by simp [within]; omega
 refine calls_fr Try.func54 Try.ntmps54 rfl rfl fun g hg => ?_
 have k0 : g 0 = .agg #[.slice (some ⟨bp, oP, none⟩) np cp, .slice (some ⟨bq, oq, none⟩) nq cq] := hg 0
 have k1 : g 1 = .agg #[.slice (some ⟨tx, ux, none⟩) 5 cx, .slice (some ⟨tf, uf, none⟩) 2 cf] := hg 1
 clear hg
 have fB0 : Below w.heap.size w w := Below.refl _ _
 refine rw_ 3 [(2, 0), (3, 1), (4, 2)] [[], [], []] (rel [bx 0 #[.slice (some ⟨bp, oP, none⟩) np cp, .slice (some ⟨bq, oq, none⟩) nq cq] 68, bx 1 #[.slice (some ⟨tx, ux, none⟩) 5 cx, .slice (some ⟨tf, uf, none⟩) 2 cf] 71, iI 0])
  ⟨fun f s W c d j k l a => opb rfl rfl (by simp [go_sem, a.e 0 k0]),
  fun f s W c d j k l a => opb rfl rfl (by simp [go_sem, a.e 1 k1]),
  fun f s W c d j k l a => opz, trivial⟩ ?_
 intro f1 s1 W1 hB1 g1 hg1 z1
 have fB1 := hB1.f fB0
 obtain ⟨r1_0, br1_0⟩ := hB1.is 0
 have lr1_0 := hB1.lr 0 br1_0
 obtain ⟨r1_1, br1_1⟩ := hB1.is 1
 have lr1_1 := hB1.lr 1 br1_1
 have ne1_0_1 := hB1.nb 0 1
 have k1_2 := kt hg1 2 r1_0
 refine wp_seq_k fun K2 hK2 => ?_
 refine rw_ 3 [(8, 0), (9, 1), (5, 2)] [[], [0], [1]] (rel [is (.agg #[.slice (some ⟨bp, oP, none⟩) np cp, .slice (some ⟨bq, oq, none⟩) nq cq]), iI 0, iI 0])
  ⟨fun f s W c d j k l a => opv rfl rfl (by simp [go_sem, a.e 2 k1_2, cb br1_0 c 0, cb br1_0 c 1]) rfl,
  fun f s W c d j k l a => by have m := bwt fB1 c; exact opc rfl rfl (by simp [go_sem, a.e 8 (d 0 rfl)]) (boCheck_ok ps qs bp oP np cp bq oq nq cq W (hP.below m) (hQ.below m) hpi hqi np1 np8 nq1 nq4),
  fun f s W c d j k l a => opm (a.v 9 (d 1 rfl)), trivial⟩ ?_
 intro f2 s2 W2 hB2 g2 hg2 z2
 have k2_5 := kt hg2 5 (hB2.is 2)
 refine rw_ 2 [(10, 0), (11, 1)] [[], [0]] (rel [iI 0, iB false])
  ⟨fun f s W c d j k l a => opm (a.v 5 k2_5),
  fun f s W c d j k l a => opv rfl rfl (by simp [go_sem, a.e 10 (d 0 rfl)]) rfl, trivial⟩ ?_
 intro f3 s3 W3 hB3 g3 hg3 z3
 have b3_1 := hB3.b (hB2.b br1_1)
 have k3_3 := kt hg3 3 (kt hg2 3 (kt hg1 3 r1_1))
 have k3_11 := kt hg3 11 (hB3.is 1)
 refine wp_cond_false ((fr_eval rfl).trans k3_11) ?_
 refine wp_skip ?_
 refine hK2 _ _ ?_
 refine wp_seq_k fun K6 hK6 => ?_
 refine wp_block ?_
 refine rw_ 4 [(14, 0), (15, 1), (16, 2), (13, 3)] [[], [0], [1], [2]] (rel [is (.agg #[.slice (some ⟨tx, ux, none⟩) 5 cx, .slice (some ⟨tf, uf, none⟩) 2 cf]), iB true, iB false, iB false])
  ⟨fun f s W c d j k l a => opv rfl rfl (by simp [go_sem, a.e 3 k3_3, cb b3_1 c 0, cb b3_1 c 1]) rfl,
  fun f s W c d j k l a => opc (args := #[.agg #[.slice (some ⟨tx, ux, none⟩) 5 cx, .slice (some ⟨tf, uf, none⟩) 2 cf]]) rfl rfl (by simp [go_sem, a.e 14 (d 0 rfl)]) (isForm_2 _ _ cx cf W),
  fun f s W c d j k l a => opv rfl rfl (by simp [go_sem, a.e 15 (d 1 rfl)]) rfl,
  fun f s W c d j k l a => opm (a.v 16 (d 2 rfl)), trivial⟩ ?_
 intro f4 s4 W4 hB4 g4 hg4 z4
 have fB4 := hB4.f (hB3.f (hB2.f fB1))
 have b4_0 := hB4.b (hB3.b (hB2.b br1_0))
 have b4_1 := hB4.b b3_1
 have k4_2 := kt hg4 2 (kt hg3 2 (kt hg2 2 k1_2))
 have k4_3 := kt hg4 3 k3_3
 have k4_13 := kt hg4 13 (hB4.is 3)
 refine wp_cond_false ((fr_eval rfl).trans k4_13) ?_
 refine wp_seq_k fun K9 hK9 => ?_
 refine rw_ 9 [(18, 0), (19, 1), (20, 2), (21, 3), (22, 4), (23, 5), (24, 6), (25, 7), (17, 8)] [[], [0], [1], [2], [], [4], [3, 5], [6], [7]] (rel [is (.pointer (some ⟨(s1 0), 0, none⟩)), is (.slice (some ⟨bp, oP, none⟩) np cp), iI ((np : Int)), iI ((np : Int) - 1), is (.pointer (some ⟨(s1 1), 0, none⟩)), is (.slice (some ⟨tx, ux, none⟩) 5 cx), iB true, iB false, iB false])
  ⟨fun f s W c d j k l a => opv rfl rfl (by simp [go_sem, a.e 2 k4_2]) rfl,
  fun f s W c d j k l a => opv rfl rfl (by simp [go_sem, a.e 18 (d 0 rfl), cb b4_0 c 0]) rfl,
  fun f s W c d j k l a => opv rfl rfl (by simp [go_sem, a.e 19 (d 1 rfl)]) rfl,
  fun f s W c d j k l a => opv rfl rfl (by simp [go_sem, a.e 20 (d 2 rfl), IntWalk.i64_in ((np : Int) - 1) (by omega)]) rfl,
  fun f s W c d j k l a => opv rfl rfl (by simp [go_sem, a.e 3 k4_3]) rfl,
  fun f s W c d j k l a => opv rfl rfl (by simp [go_sem, a.e 22 (d 4 rfl), cb b4_1 c 0]) rfl,
  fun f s W c d j k l a => by have m := bwt fB4 c; exact opd (args := #[.int .i64 0, .int .i64 ((np : Int) - 1), .slice (some ⟨tx, ux, none⟩) 5 cx]) rfl rfl (by simp [go_sem, a.e 21 (d 3 rfl), a.e 23 (d 5 rfl)]) (bo_within_any 0 ((np : Int) - 1) _ 5 cx [(pa0 : Int), (pa1 : Int), (pa2 : Int), (pa3 : Int), (pa4 : Int)] W (hX.below m (Nat.le_refl _))) ((fun e W' h => by have h1 := h.1; rw [hwX] at h1; exact ⟨_, h1, h.2, rfl⟩)),
  fun f s W c d j k l a => opv rfl rfl (by simp [go_sem, a.e 24 (d 6 rfl)]) rfl,
  fun f s W c d j k l a => opm (a.v 25 (d 7 rfl)), trivial⟩ ?_
 intro f5 s5 W5 hB5 g5 hg5 z5
 have fB5 := hB5.f fB4
 have b5_0 := hB5.b b4_0
 have b5_1 := hB5.b b4_1
 have k5_2 := kt hg5 2 k4_2
 have k5_3 := kt hg5 3 k4_3
 have k5_17 := kt hg5 17 (hB5.is 8)
 refine wp_cond_false ((fr_eval rfl).trans k5_17) ?_
 refine ry 9 [(26, 0), (27, 1), (28, 2), (29, 3), (30, 4), (31, 5), (32, 6), (33, 7), (17, 8)] [[], [0], [1], [2], [], [4], [3, 5], [6], [7]] (rel [is (.pointer (some ⟨(s1 0), 1, none⟩)), is (.slice (some ⟨bq, oq, none⟩) nq cq), iI ((nq : Int)), iI ((nq : Int) - 1), is (.pointer (some ⟨(s1 1), 1, none⟩)), is (.slice (some ⟨tf, uf, none⟩) 2 cf), iB true, iB false, iB false])
  ⟨fun f s W c d j k l a => opv rfl rfl (by simp [go_sem, a.e 2 k5_2]) rfl,
  fun f s W c d j k l a => opv rfl rfl (by simp [go_sem, a.e 26 (d 0 rfl), cb b5_0 c 1]) rfl,
  fun f s W c d j k l a => opv rfl rfl (by simp [go_sem, a.e 27 (d 1 rfl)]) rfl,
  fun f s W c d j k l a => opv rfl rfl (by simp [go_sem, a.e 28 (d 2 rfl), IntWalk.i64_in ((nq : Int) - 1) (by omega)]) rfl,
  fun f s W c d j k l a => opv rfl rfl (by simp [go_sem, a.e 3 k5_3]) rfl,
  fun f s W c d j k l a => opv rfl rfl (by simp [go_sem, a.e 30 (d 4 rfl), cb b5_1 c 1]) rfl,
  fun f s W c d j k l a => by have m := bwt fB5 c; exact opd (args := #[.int .i64 0, .int .i64 ((nq : Int) - 1), .slice (some ⟨tf, uf, none⟩) 2 cf]) rfl rfl (by simp [go_sem, a.e 29 (d 3 rfl), a.e 31 (d 5 rfl)]) (bo_within_any 0 ((nq : Int) - 1) _ 2 cf [(fa0 : Int), (fa1 : Int)] W (hF.below m (Nat.le_refl _))) ((fun e W' h => by have h1 := h.1; rw [hwF] at h1; exact ⟨_, h1, h.2, rfl⟩)),
  fun f s W c d j k l a => opv rfl rfl (by simp [go_sem, a.e 32 (d 6 rfl)]) rfl,
  fun f s W c d j k l a => opm (a.v 33 (d 7 rfl)), trivial⟩ ?_
 intro f6 s6 W6 hB6 g6 hg6 z6
 have b6_1 := hB6.b b5_1
 refine hK9 _ _ ?_
 have k6_3 := kt hg6 3 k5_3
 have k6_17 := kt hg6 17 (hB6.is 8)
 refine wp_cond_false ((fr_eval rfl).trans k6_17) ?_
 refine wp_skip ?_
 refine ibn ?_
 refine hK6 _ _ ?_
 refine wp_seq_k fun K13 hK13 => ?_
 refine rx 6 [(34, 0), (35, 1), (36, 2), (37, 3), (38, 4), (39, 5)] [[], [0], [1], [2], [3], []] (rel [is (.pointer (some ⟨(s1 1), 1, none⟩)), is (.slice (some ⟨tf, uf, none⟩) 2 cf), iI 2, ab fun v W => IsKi 5 [1, 2, 1, 2, 1] v W, iI 5, iI 0])
  ⟨is_k, is_k, is_k, ab_k fun v W W' hb h => h.below hb, is_k, is_k, trivial⟩
  ⟨fun f s W c d j k l a => opv rfl rfl (by simp [go_sem, a.e 3 k6_3]) rfl,
  fun f s W c d j k l a => opv rfl rfl (by simp [go_sem, a.e 34 (d 0 rfl), cb b6_1 c 1]) rfl,
  fun f s W c d j k l a => opv rfl rfl (by simp [go_sem, a.e 35 (d 1 rfl)]) rfl,
  fun f s W c d j k l a => opd rfl rfl (by simp [go_sem, a.e 36 (d 2 rfl)]) (kinds_2 W) ((fun e W' h => by obtain ⟨v, e1, h1, h2⟩ := h; exact ⟨_, e1, h2, h1⟩)),
  fun f s W c d j k l a => by obtain ⟨a42', c43', d3, q44'⟩ := (d 3 rfl); exact opv rfl rfl (by simp [go_sem, a.e 37 d3]) rfl,
  fun f s W c d j k l a => opz, trivial⟩ ?_
 intro f7 s7 W7 hB7 g7 hg7 z7
 obtain ⟨a45', c46', r7_3, q47'⟩ := hB7.is 3
 have k7_38 := kt hg7 38 (hB7.is 4)
 have k7_39 := kt hg7 39 (hB7.is 5)
 refine wp_block ?_
 refine wp_loop_rounds 6 ?_
 rw [rounds_succ]
 refine rw_ 1 [(40, 0)] [[]] (rel [iB true])
  ⟨fun f s W c d j k l a => opv rfl rfl (by simp [go_sem, a.e 39 k7_39, a.e 38 k7_38]) rfl, trivial⟩ ?_
 intro f8 s8 W8 hB8 g8 hg8 z8
 have q48' := (q47'.bw hB8)
 have k8_37 := kt hg8 37 (kt hg7 37 r7_3)
 have k8_39 := kt hg8 39 k7_39
 have k8_40 := kt hg8 40 (hB8.is 0)
 refine wp_seq_k fun K16 hK16 => ?_
 refine wp_cond_true ((fr_eval rfl).trans k8_40) ?_
 refine wp_skip ?_
 refine hK16 _ _ ?_
 refine wp_seq_k fun K18 hK18 => ?_
 refine wp_block ?_
 refine rw_ 5 [(41, 0), (42, 1), (43, 2), (6, 3), (7, 4)] [[], [], [1], [0], [2]] (rel [iI 0, is (.pointer (some ⟨a45', 0, none⟩)), iI 1, iI 0, iI 1])
  ⟨fun f s W c d j k l a => opm (a.v 39 k8_39),
  fun f s W c d j k l a => opv rfl rfl (by simp [go_sem, a.e 37 k8_37, a.e 39 k8_39]) rfl,
  fun f s W c d j k l a => by have cu : W.cell? ⟨a45', 0, none⟩ = some (.int .i64 1) := (by have := ii_cell (q48'.below c (Nat.le_refl _)) 0 (by decide); rw [Nat.zero_add] at this; exact this); exact opv rfl rfl (by simp [go_sem, a.e 42 (d 1 rfl), cu]) rfl,
  fun f s W c d j k l a => opm (a.v 41 (d 0 rfl)),
  fun f s W c d j k l a => opm (a.v 43 (d 2 rfl)), trivial⟩ ?_
 intro f9 s9 W9 hB9 g9 hg9 z9
 have fB9 := hB9.f (hB8.f (hB7.f (hB6.f fB5)))
 have b9_0 := hB9.b (hB8.b (hB7.b (hB6.b b5_0)))
 have b9_1 := hB9.b (hB8.b (hB7.b b6_1))
 have q49' := (q48'.bw hB9)
 have k9_2 := kt hg9 2 (kt hg8 2 (kt hg7 2 (kt hg6 2 k5_2)))
 have k9_3 := kt hg9 3 (kt hg8 3 (kt hg7 3 k6_3))
 have k9_6 := kt hg9 6 (hB9.is 3)
 have k9_7 := kt hg9 7 (hB9.is 4)
 refine rw_ 12 [(44, 0), (45, 1), (46, 2), (47, 3), (48, 4), (49, 5), (50, 6), (51, 7), (52, 8), (53, 9), (54, 10), (55, 11)] [[], [0], [], [2], [], [3, 4], [5], [1, 6], [7], [8], [], [9, 10]] (rel [is (.pointer (some ⟨(s1 0), 0, none⟩)), is (.slice (some ⟨bp, oP, none⟩) np cp), is (.pointer (some ⟨(s1 1), 0, none⟩)), is (.slice (some ⟨tx, ux, none⟩) 5 cx), iI 0, is (.pointer (some ⟨tx, ux, none⟩)), iI ((pa0 : Int)), is (.pointer (some ⟨bp, oP + pa0 * 8, none⟩)), is (.pointer (some ⟨bp, oP + pa0 * 8, none⟩)), iI PA0.kind, iI 1, iB false])
  ⟨fun f s W c d j k l a => opv rfl rfl (by simp [go_sem, a.e 2 k9_2]) rfl,
  fun f s W c d j k l a => opv rfl rfl (by simp [go_sem, a.e 44 (d 0 rfl), cb b9_0 c 0]) rfl,
  fun f s W c d j k l a => opv rfl rfl (by simp [go_sem, a.e 3 k9_3]) rfl,
  fun f s W c d j k l a => opv rfl rfl (by simp [go_sem, a.e 46 (d 2 rfl), cb b9_1 c 0]) rfl,
  fun f s W c d j k l a => opm (a.v 6 k9_6),
  fun f s W c d j k l a => opv rfl rfl (by simp [go_sem, a.e 47 (d 3 rfl), a.e 48 (d 4 rfl)]) rfl,
  fun f s W c d j k l a => by have m := bwt fB9 c; have cu : W.cell? ⟨tx, ux, none⟩ = some (.int .i64 (pa0 : Int)) := ii_cell (hX.below m (Nat.le_refl _)) 0 (by simp); exact opv rfl rfl (by simp [go_sem, a.e 49 (d 5 rfl), cu]) rfl,
  fun f s W c d j k l a => by have li_ := Nat.not_le.2 hpa0; have lz_ : (pa0 : Int) < (np : Int) := (by omega); exact opv rfl rfl (by simp [go_sem, a.e 45 (d 1 rfl), a.e 50 (d 6 rfl), li_, hpa0, lz_]) rfl,
  fun f s W c d j k l a => opv rfl rfl (by simp [go_sem, a.e 51 (d 7 rfl)]) rfl,
  fun f s W c d j k l a => by have m := bwt fB9 c; have E_ := (hP.below m).2 pa0 hpa0; rw [epa0] at E_; obtain ⟨u0_, u1_, u2_, u3_, u4_, u5_, u6_, u7_⟩ := E_; have v0_ : W.cell? ⟨bp, oP + pa0 * 8, none⟩ = some (.int .i64 PA0.kind) := u0_; exact opv rfl rfl (by simp [go_sem, a.e 52 (d 8 rfl), v0_]) rfl,
  fun f s W c d j k l a => opm (a.v 7 k9_7),
  fun f s W c d j k l a => opv rfl rfl (by simp [go_sem, a.e 53 (d 9 rfl), a.e 54 (d 10 rfl), hk0]) rfl, trivial⟩ ?_
 intro f10 s10 W10 hB10 g10 hg10 z10
 have q50' := (q49'.bw hB10)
 have k10_39 := kt hg10 39 (kt hg9 39 k8_39)
 have k10_55 := kt hg10 55 (hB10.is 11)
 refine wp_cond_false ((fr_eval rfl).trans k10_55) ?_
 refine wp_skip ?_
 refine ibn ?_
 refine hK18 _ _ ?_
 refine ry 2 [(56, 0), (39, 1)] [[], [0]] (rel [iI 1, iI 1])
  ⟨fun f s W c d j k l a => opv rfl rfl (by simp [go_sem, a.e 39 ((k 1 39 rfl rfl).trans k10_39), IntWalk.i64_in (1) (by omega)]) rfl,
  fun f s W c d j k l a => opm (a.v 56 (d 0 rfl)), trivial⟩ ?_
 intro f11 s11 W11 hB11 g11 hg11 z11
 have q51' := (q50'.bw hB11)
 refine wpe ?_
 have k11_38 := kt hg11 38 (kt hg10 38 (kt hg9 38 (kt hg8 38 k7_38)))
 have k11_39 := kt hg11 39 (hB11.is 1)
 refine then_normal ?_
 rw [rounds_succ]
 refine rw_ 1 [(40, 0)] [[]] (rel [iB true])
  ⟨fun f s W c d j k l a => opv rfl rfl (by simp [go_sem, a.e 39 k11_39, a.e 38 k11_38]) rfl, trivial⟩ ?_
 intro f12 s12 W12 hB12 g12 hg12 z12
 have q52' := (q51'.bw hB12)
 have k12_37 := kt hg12 37 (kt hg11 37 (kt hg10 37 (kt hg9 37 k8_37)))
 have k12_39 := kt hg12 39 k11_39
 have k12_40 := kt hg12 40 (hB12.is 0)
 refine wp_seq_k fun K23 hK23 => ?_
 refine wp_cond_true ((fr_eval rfl).trans k12_40) ?_
 refine wp_skip ?_
 refine hK23 _ _ ?_
 refine wp_seq_k fun K25 hK25 => ?_
 refine wp_block ?_
 refine rw_ 5 [(41, 0), (42, 1), (43, 2), (6, 3), (7, 4)] [[], [], [1], [0], [2]] (rel [iI 1, is (.pointer (some ⟨a45', 1, none⟩)), iI 2, iI 1, iI 2])
  ⟨fun f s W c d j k l a => opm (a.v 39 k12_39),
  fun f s W c d j k l a => opv rfl rfl (by simp [go_sem, a.e 37 k12_37, a.e 39 k12_39]) rfl,
  fun f s W c d j k l a => by have cu : W.cell? ⟨a45', 1, none⟩ = some (.int .i64 2) := (by have := ii_cell (q52'.below c (Nat.le_refl _)) 1 (by decide); rw [Nat.zero_add] at this; exact this); exact opv rfl rfl (by simp [go_sem, a.e 42 (d 1 rfl), cu]) rfl,
  fun f s W c d j k l a => opm (a.v 41 (d 0 rfl)),
  fun f s W c d j k l a => opm (a.v 43 (d 2 rfl)), trivial⟩ ?_
 intro f13 s13 W13 hB13 g13 hg13 z13
 have fB13 := hB13.f (hB12.f (hB11.f (hB10.f fB9)))
 have b13_0 := hB13.b (hB12.b (hB11.b (hB10.b b9_0)))
 have b13_1 := hB13.b (hB12.b (hB11.b (hB10.b b9_1)))
 have q53' := (q52'.bw hB13)
 have k13_2 := kt hg13 2 (kt hg12 2 (kt hg11 2 (kt hg10 2 k9_2)))
 have k13_3 := kt hg13 3 (kt hg12 3 (kt hg11 3 (kt hg10 3 k9_3)))
 have k13_6 := kt hg13 6 (hB13.is 3)
 have k13_7 := kt hg13 7 (hB13.is 4)
 refine rw_ 12 [(44, 0), (45, 1), (46, 2), (47, 3), (48, 4), (49, 5), (50, 6), (51, 7), (52, 8), (53, 9), (54, 10), (55, 11)] [[], [0], [], [2], [], [3, 4], [5], [1, 6], [7], [8], [], [9, 10]] (rel [is (.pointer (some ⟨(s1 0), 0, none⟩)), is (.slice (some ⟨bp, oP, none⟩) np cp), is (.pointer (some ⟨(s1 1), 0, none⟩)), is (.slice (some ⟨tx, ux, none⟩) 5 cx), iI 1, is (.pointer (some ⟨tx, ux + 1, none⟩)), iI ((pa1 : Int)), is (.pointer (some ⟨bp, oP + pa1 * 8, none⟩)), is (.pointer (some ⟨bp, oP + pa1 * 8, none⟩)), iI PA1.kind, iI 2, iB false])
  ⟨fun f s W c d j k l a => opv rfl rfl (by simp [go_sem, a.e 2 k13_2]) rfl,
  fun f s W c d j k l a => opv rfl rfl (by simp [go_sem, a.e 44 (d 0 rfl), cb b13_0 c 0]) rfl,
  fun f s W c d j k l a => opv rfl rfl (by simp [go_sem, a.e 3 k13_3]) rfl,
  fun f s W c d j k l a => opv rfl rfl (by simp [go_sem, a.e 46 (d 2 rfl), cb b13_1 c 0]) rfl,
  fun f s W c d j k l a => opm (a.v 6 k13_6),
  fun f s W c d j k l a => opv rfl rfl (by simp [go_sem, a.e 47 (d 3 rfl), a.e 48 (d 4 rfl)]) rfl,
  fun f s W c d j k l a => by have m := bwt fB13 c; have cu : W.cell? ⟨tx, ux + 1, none⟩ = some (.int .i64 (pa1 : Int)) := ii_cell (hX.below m (Nat.le_refl _)) 1 (by simp); exact opv rfl rfl (by simp [go_sem, a.e 49 (d 5 rfl), cu]) rfl,
  fun f s W c d j k l a => by have li_ := Nat.not_le.2 hpa1; have lz_ : (pa1 : Int) < (np : Int) := (by omega); exact opv rfl rfl (by simp [go_sem, a.e 45 (d 1 rfl), a.e 50 (d 6 rfl), li_, hpa1, lz_]) rfl,
  fun f s W c d j k l a => opv rfl rfl (by simp [go_sem, a.e 51 (d 7 rfl)]) rfl,
  fun f s W c d j k l a => by have m := bwt fB13 c; have E_ := (hP.below m).2 pa1 hpa1; rw [epa1] at E_; obtain ⟨u0_, u1_, u2_, u3_, u4_, u5_, u6_, u7_⟩ := E_; have v0_ : W.cell? ⟨bp, oP + pa1 * 8, none⟩ = some (.int .i64 PA1.kind) := u0_; exact opv rfl rfl (by simp [go_sem, a.e 52 (d 8 rfl), v0_]) rfl,
  fun f s W c d j k l a => opm (a.v 7 k13_7),
  fun f s W c d j k l a => opv rfl rfl (by simp [go_sem, a.e 53 (d 9 rfl), a.e 54 (d 10 rfl), hk1]) rfl, trivial⟩ ?_
 intro f14 s14 W14 hB14 g14 hg14 z14
 have q54' := (q53'.bw hB14)
 have k14_39 := kt hg14 39 (kt hg13 39 k12_39)
 have k14_55 := kt hg14 55 (hB14.is 11)
 refine wp_cond_false ((fr_eval rfl).trans k14_55) ?_
 refine wp_skip ?_
 refine ibn ?_
 refine hK25 _ _ ?_
 refine ry 2 [(56, 0), (39, 1)] [[], [0]] (rel [iI 2, iI 2])
  ⟨fun f s W c d j k l a => opv rfl rfl (by simp [go_sem, a.e 39 ((k 1 39 rfl rfl).trans k14_39), IntWalk.i64_in (2) (by omega)]) rfl,
  fun f s W c d j k l a => opm (a.v 56 (d 0 rfl)), trivial⟩ ?_
 intro f15 s15 W15 hB15 g15 hg15 z15
 have q55' := (q54'.bw hB15)
 refine wpe ?_
 have k15_38 := kt hg15 38 (kt hg14 38 (kt hg13 38 (kt hg12 38 k11_38)))
 have k15_39 := kt hg15 39 (hB15.is 1)
 refine then_normal ?_
 rw [rounds_succ]
 refine rw_ 1 [(40, 0)] [[]] (rel [iB true])
  ⟨fun f s W c d j k l a => opv rfl rfl (by simp [go_sem, a.e 39 k15_39, a.e 38 k15_38]) rfl, trivial⟩ ?_
 intro f16 s16 W16 hB16 g16 hg16 z16
 have q56' := (q55'.bw hB16)
 have k16_37 := kt hg16 37 (kt hg15 37 (kt hg14 37 (kt hg13 37 k12_37)))
 have k16_39 := kt hg16 39 k15_39
 have k16_40 := kt hg16 40 (hB16.is 0)
 refine wp_seq_k fun K30 hK30 => ?_
 refine wp_cond_true ((fr_eval rfl).trans k16_40) ?_
 refine wp_skip ?_
 refine hK30 _ _ ?_
 refine wp_seq_k fun K32 hK32 => ?_
 refine wp_block ?_
 refine rw_ 5 [(41, 0), (42, 1), (43, 2), (6, 3), (7, 4)] [[], [], [1], [0], [2]] (rel [iI 2, is (.pointer (some ⟨a45', 2, none⟩)), iI 1, iI 2, iI 1])
  ⟨fun f s W c d j k l a => opm (a.v 39 k16_39),
  fun f s W c d j k l a => opv rfl rfl (by simp [go_sem, a.e 37 k16_37, a.e 39 k16_39]) rfl,
  fun f s W c d j k l a => by have cu : W.cell? ⟨a45', 2, none⟩ = some (.int .i64 1) := (by have := ii_cell (q56'.below c (Nat.le_refl _)) 2 (by decide); rw [Nat.zero_add] at this; exact this); exact opv rfl rfl (by simp [go_sem, a.e 42 (d 1 rfl), cu]) rfl,
  fun f s W c d j k l a => opm (a.v 41 (d 0 rfl)),
  fun f s W c d j k l a => opm (a.v 43 (d 2 rfl)), trivial⟩ ?_
 intro f17 s17 W17 hB17 g17 hg17 z17
 have fB17 := hB17.f (hB16.f (hB15.f (hB14.f fB13)))
 have b17_0 := hB17.b (hB16.b (hB15.b (hB14.b b13_0)))
 have b17_1 := hB17.b (hB16.b (hB15.b (hB14.b b13_1)))
 have q57' := (q56'.bw hB17)
 have k17_2 := kt hg17 2 (kt hg16 2 (kt hg15 2 (kt hg14 2 k13_2)))
 have k17_3 := kt hg17 3 (kt hg16 3 (kt hg15 3 (kt hg14 3 k13_3)))
 have k17_6 := kt hg17 6 (hB17.is 3)
 have k17_7 := kt hg17 7 (hB17.is 4)
 refine rw_ 12 [(44, 0), (45, 1), (46, 2), (47, 3), (48, 4), (49, 5), (50, 6), (51, 7), (52, 8), (53, 9), (54, 10), (55, 11)] [[], [0], [], [2], [], [3, 4], [5], [1, 6], [7], [8], [], [9, 10]] (rel [is (.pointer (some ⟨(s1 0), 0, none⟩)), is (.slice (some ⟨bp, oP, none⟩) np cp), is (.pointer (some ⟨(s1 1), 0, none⟩)), is (.slice (some ⟨tx, ux, none⟩) 5 cx), iI 2, is (.pointer (some ⟨tx, ux + 2, none⟩)), iI ((pa2 : Int)), is (.pointer (some ⟨bp, oP + pa2 * 8, none⟩)), is (.pointer (some ⟨bp, oP + pa2 * 8, none⟩)), iI PA2.kind, iI 1, iB false])
  ⟨fun f s W c d j k l a => opv rfl rfl (by simp [go_sem, a.e 2 k17_2]) rfl,
  fun f s W c d j k l a => opv rfl rfl (by simp [go_sem, a.e 44 (d 0 rfl), cb b17_0 c 0]) rfl,
  fun f s W c d j k l a => opv rfl rfl (by simp [go_sem, a.e 3 k17_3]) rfl,
  fun f s W c d j k l a => opv rfl rfl (by simp [go_sem, a.e 46 (d 2 rfl), cb b17_1 c 0]) rfl,
  fun f s W c d j k l a => opm (a.v 6 k17_6),
  fun f s W c d j k l a => opv rfl rfl (by simp [go_sem, a.e 47 (d 3 rfl), a.e 48 (d 4 rfl)]) rfl,
  fun f s W c d j k l a => by have m := bwt fB17 c; have cu : W.cell? ⟨tx, ux + 2, none⟩ = some (.int .i64 (pa2 : Int)) := ii_cell (hX.below m (Nat.le_refl _)) 2 (by simp); exact opv rfl rfl (by simp [go_sem, a.e 49 (d 5 rfl), cu]) rfl,
  fun f s W c d j k l a => by have li_ := Nat.not_le.2 hpa2; have lz_ : (pa2 : Int) < (np : Int) := (by omega); exact opv rfl rfl (by simp [go_sem, a.e 45 (d 1 rfl), a.e 50 (d 6 rfl), li_, hpa2, lz_]) rfl,
  fun f s W c d j k l a => opv rfl rfl (by simp [go_sem, a.e 51 (d 7 rfl)]) rfl,
  fun f s W c d j k l a => by have m := bwt fB17 c; have E_ := (hP.below m).2 pa2 hpa2; rw [epa2] at E_; obtain ⟨u0_, u1_, u2_, u3_, u4_, u5_, u6_, u7_⟩ := E_; have v0_ : W.cell? ⟨bp, oP + pa2 * 8, none⟩ = some (.int .i64 PA2.kind) := u0_; exact opv rfl rfl (by simp [go_sem, a.e 52 (d 8 rfl), v0_]) rfl,
  fun f s W c d j k l a => opm (a.v 7 k17_7),
  fun f s W c d j k l a => opv rfl rfl (by simp [go_sem, a.e 53 (d 9 rfl), a.e 54 (d 10 rfl), hk2]) rfl, trivial⟩ ?_
 intro f18 s18 W18 hB18 g18 hg18 z18
 have q58' := (q57'.bw hB18)
 have k18_39 := kt hg18 39 (kt hg17 39 k16_39)
 have k18_55 := kt hg18 55 (hB18.is 11)
 refine wp_cond_false ((fr_eval rfl).trans k18_55) ?_
 refine wp_skip ?_
 refine ibn ?_
 refine hK32 _ _ ?_
 refine ry 2 [(56, 0), (39, 1)] [[], [0]] (rel [iI 3, iI 3])
  ⟨fun f s W c d j k l a => opv rfl rfl (by simp [go_sem, a.e 39 ((k 1 39 rfl rfl).trans k18_39), IntWalk.i64_in (3) (by omega)]) rfl,
  fun f s W c d j k l a => opm (a.v 56 (d 0 rfl)), trivial⟩ ?_
 intro f19 s19 W19 hB19 g19 hg19 z19
 have q59' := (q58'.bw hB19)
 refine wpe ?_
 have k19_38 := kt hg19 38 (kt hg18 38 (kt hg17 38 (kt hg16 38 k15_38)))
 have k19_39 := kt hg19 39 (hB19.is 1)
 refine then_normal ?_
 rw [rounds_succ]
 refine rw_ 1 [(40, 0)] [[]] (rel [iB true])
  ⟨fun f s W c d j k l a => opv rfl rfl (by simp [go_sem, a.e 39 k19_39, a.e 38 k19_38]) rfl, trivial⟩ ?_
 intro f20 s20 W20 hB20 g20 hg20 z20
 have q60' := (q59'.bw hB20)
 have k20_37 := kt hg20 37 (kt hg19 37 (kt hg18 37 (kt hg17 37 k16_37)))
 have k20_39 := kt hg20 39 k19_39
 have k20_40 := kt hg20 40 (hB20.is 0)
 refine wp_seq_k fun K37 hK37 => ?_
 refine wp_cond_true ((fr_eval rfl).trans k20_40) ?_
 refine wp_skip ?_
 refine hK37 _ _ ?_
 refine wp_seq_k fun K39 hK39 => ?_
 refine wp_block ?_
 refine rw_ 5 [(41, 0), (42, 1), (43, 2), (6, 3), (7, 4)] [[], [], [1], [0], [2]] (rel [iI 3, is (.pointer (some ⟨a45', 3, none⟩)), iI 2, iI 3, iI 2])
  ⟨fun f s W c d j k l a => opm (a.v 39 k20_39),
  fun f s W c d j k l a => opv rfl rfl (by simp [go_sem, a.e 37 k20_37, a.e 39 k20_39]) rfl,
  fun f s W c d j k l a => by have cu : W.cell? ⟨a45', 3, none⟩ = some (.int .i64 2) := (by have := ii_cell (q60'.below c (Nat.le_refl _)) 3 (by decide); rw [Nat.zero_add] at this; exact this); exact opv rfl rfl (by simp [go_sem, a.e 42 (d 1 rfl), cu]) rfl,
  fun f s W c d j k l a => opm (a.v 41 (d 0 rfl)),
  fun f s W c d j k l a => opm (a.v 43 (d 2 rfl)), trivial⟩ ?_
 intro f21 s21 W21 hB21 g21 hg21 z21
 have fB21 := hB21.f (hB20.f (hB19.f (hB18.f fB17)))
 have b21_0 := hB21.b (hB20.b (hB19.b (hB18.b b17_0)))
 have b21_1 := hB21.b (hB20.b (hB19.b (hB18.b b17_1)))
 have q61' := (q60'.bw hB21)
 have k21_2 := kt hg21 2 (kt hg20 2 (kt hg19 2 (kt hg18 2 k17_2)))
 have k21_3 := kt hg21 3 (kt hg20 3 (kt hg19 3 (kt hg18 3 k17_3)))
 have k21_6 := kt hg21 6 (hB21.is 3)
 have k21_7 := kt hg21 7 (hB21.is 4)
 refine rw_ 12 [(44, 0), (45, 1), (46, 2), (47, 3), (48, 4), (49, 5), (50, 6), (51, 7), (52, 8), (53, 9), (54, 10), (55, 11)] [[], [0], [], [2], [], [3, 4], [5], [1, 6], [7], [8], [], [9, 10]] (rel [is (.pointer (some ⟨(s1 0), 0, none⟩)), is (.slice (some ⟨bp, oP, none⟩) np cp), is (.pointer (some ⟨(s1 1), 0, none⟩)), is (.slice (some ⟨tx, ux, none⟩) 5 cx), iI 3, is (.pointer (some ⟨tx, ux + 3, none⟩)), iI ((pa3 : Int)), is (.pointer (some ⟨bp, oP + pa3 * 8, none⟩)), is (.pointer (some ⟨bp, oP + pa3 * 8, none⟩)), iI PA3.kind, iI 2, iB false])
  ⟨fun f s W c d j k l a => opv rfl rfl (by simp [go_sem, a.e 2 k21_2]) rfl,
  fun f s W c d j k l a => opv rfl rfl (by simp [go_sem, a.e 44 (d 0 rfl), cb b21_0 c 0]) rfl,
  fun f s W c d j k l a => opv rfl rfl (by simp [go_sem, a.e 3 k21_3]) rfl,
  fun f s W c d j k l a => opv rfl rfl (by simp [go_sem, a.e 46 (d 2 rfl), cb b21_1 c 0]) rfl,
  fun f s W c d j k l a => opm (a.v 6 k21_6),
  fun f s W c d j k l a => opv rfl rfl (by simp [go_sem, a.e 47 (d 3 rfl), a.e 48 (d 4 rfl)]) rfl,
  fun f s W c d j k l a => by have m := bwt fB21 c; have cu : W.cell? ⟨tx, ux + 3, none⟩ = some (.int .i64 (pa3 : Int)) := ii_cell (hX.below m (Nat.le_refl _)) 3 (by simp); exact opv rfl rfl (by simp [go_sem, a.e 49 (d 5 rfl), cu]) rfl,
  fun f s W c d j k l a => by have li_ := Nat.not_le.2 hpa3; have lz_ : (pa3 : Int) < (np : Int) := (by omega); exact opv rfl rfl (by simp [go_sem, a.e 45 (d 1 rfl), a.e 50 (d 6 rfl), li_, hpa3, lz_]) rfl,
  fun f s W c d j k l a => opv rfl rfl (by simp [go_sem, a.e 51 (d 7 rfl)]) rfl,
  fun f s W c d j k l a => by have m := bwt fB21 c; have E_ := (hP.below m).2 pa3 hpa3; rw [epa3] at E_; obtain ⟨u0_, u1_, u2_, u3_, u4_, u5_, u6_, u7_⟩ := E_; have v0_ : W.cell? ⟨bp, oP + pa3 * 8, none⟩ = some (.int .i64 PA3.kind) := u0_; exact opv rfl rfl (by simp [go_sem, a.e 52 (d 8 rfl), v0_]) rfl,
  fun f s W c d j k l a => opm (a.v 7 k21_7),
  fun f s W c d j k l a => opv rfl rfl (by simp [go_sem, a.e 53 (d 9 rfl), a.e 54 (d 10 rfl), hk3]) rfl, trivial⟩ ?_
 intro f22 s22 W22 hB22 g22 hg22 z22
 have q62' := (q61'.bw hB22)
 have k22_39 := kt hg22 39 (kt hg21 39 k20_39)
 have k22_55 := kt hg22 55 (hB22.is 11)
 refine wp_cond_false ((fr_eval rfl).trans k22_55) ?_
 refine wp_skip ?_
 refine ibn ?_
 refine hK39 _ _ ?_
 refine ry 2 [(56, 0), (39, 1)] [[], [0]] (rel [iI 4, iI 4])
  ⟨fun f s W c d j k l a => opv rfl rfl (by simp [go_sem, a.e 39 ((k 1 39 rfl rfl).trans k22_39), IntWalk.i64_in (4) (by omega)]) rfl,
  fun f s W c d j k l a => opm (a.v 56 (d 0 rfl)), trivial⟩ ?_
 intro f23 s23 W23 hB23 g23 hg23 z23
 have q63' := (q62'.bw hB23)
 refine wpe ?_
 have k23_38 := kt hg23 38 (kt hg22 38 (kt hg21 38 (kt hg20 38 k19_38)))
 have k23_39 := kt hg23 39 (hB23.is 1)
 refine then_normal ?_
 rw [rounds_succ]
 refine rw_ 1 [(40, 0)] [[]] (rel [iB true])
  ⟨fun f s W c d j k l a => opv rfl rfl (by simp [go_sem, a.e 39 k23_39, a.e 38 k23_38]) rfl, trivial⟩ ?_
 intro f24 s24 W24 hB24 g24 hg24 z24
 have q64' := (q63'.bw hB24)
 have k24_37 := kt hg24 37 (kt hg23 37 (kt hg22 37 (kt hg21 37 k20_37)))
 have k24_39 := kt hg24 39 k23_39
 have k24_40 := kt hg24 40 (hB24.is 0)
 refine wp_seq_k fun K44 hK44 => ?_
 refine wp_cond_true ((fr_eval rfl).trans k24_40) ?_
 refine wp_skip ?_
 refine hK44 _ _ ?_
 refine wp_seq_k fun K46 hK46 => ?_
 refine wp_block ?_
 refine rw_ 5 [(41, 0), (42, 1), (43, 2), (6, 3), (7, 4)] [[], [], [1], [0], [2]] (rel [iI 4, is (.pointer (some ⟨a45', 4, none⟩)), iI 1, iI 4, iI 1])
  ⟨fun f s W c d j k l a => opm (a.v 39 k24_39),
  fun f s W c d j k l a => opv rfl rfl (by simp [go_sem, a.e 37 k24_37, a.e 39 k24_39]) rfl,
  fun f s W c d j k l a => by have cu : W.cell? ⟨a45', 4, none⟩ = some (.int .i64 1) := (by have := ii_cell (q64'.below c (Nat.le_refl _)) 4 (by decide); rw [Nat.zero_add] at this; exact this); exact opv rfl rfl (by simp [go_sem, a.e 42 (d 1 rfl), cu]) rfl,
  fun f s W c d j k l a => opm (a.v 41 (d 0 rfl)),
  fun f s W c d j k l a => opm (a.v 43 (d 2 rfl)), trivial⟩ ?_
 intro f25 s25 W25 hB25 g25 hg25 z25
 have fB25 := hB25.f (hB24.f (hB23.f (hB22.f fB21)))
 have b25_0 := hB25.b (hB24.b (hB23.b (hB22.b b21_0)))
 have b25_1 := hB25.b (hB24.b (hB23.b (hB22.b b21_1)))
 have q65' := (q64'.bw hB25)
 have k25_2 := kt hg25 2 (kt hg24 2 (kt hg23 2 (kt hg22 2 k21_2)))
 have k25_3 := kt hg25 3 (kt hg24 3 (kt hg23 3 (kt hg22 3 k21_3)))
 have k25_6 := kt hg25 6 (hB25.is 3)
 have k25_7 := kt hg25 7 (hB25.is 4)
 refine rw_ 12 [(44, 0), (45, 1), (46, 2), (47, 3), (48, 4), (49, 5), (50, 6), (51, 7), (52, 8), (53, 9), (54, 10), (55, 11)] [[], [0], [], [2], [], [3, 4], [5], [1, 6], [7], [8], [], [9, 10]] (rel [is (.pointer (some ⟨(s1 0), 0, none⟩)), is (.slice (some ⟨bp, oP, none⟩) np cp), is (.pointer (some ⟨(s1 1), 0, none⟩)), is (.slice (some ⟨tx, ux, none⟩) 5 cx), iI 4, is (.pointer (some ⟨tx, ux + 4, none⟩)), iI ((pa4 : Int)), is (.pointer (some ⟨bp, oP + pa4 * 8, none⟩)), is (.pointer (some ⟨bp, oP + pa4 * 8, none⟩)), iI PA4.kind, iI 1, iB false])
  ⟨fun f s W c d j k l a => opv rfl rfl (by simp [go_sem, a.e 2 k25_2]) rfl,
  fun f s W c d j k l a => opv rfl rfl (by simp [go_sem, a.e 44 (d 0 rfl), cb b25_0 c 0]) rfl,
  fun f s W c d j k l a => opv rfl rfl (by simp [go_sem, a.e 3 k25_3]) rfl,
  fun f s W c d j k l a => opv rfl rfl (by simp [go_sem, a.e 46 (d 2 rfl), cb b25_1 c 0]) rfl,
  fun f s W c d j k l a => opm (a.v 6 k25_6),
  fun f s W c d j k l a => opv rfl rfl (by simp [go_sem, a.e 47 (d 3 rfl), a.e 48 (d 4 rfl)]) rfl,
  fun f s W c d j k l a => by have m := bwt fB25 c; have cu : W.cell? ⟨tx, ux + 4, none⟩ = some (.int .i64 (pa4 : Int)) := ii_cell (hX.below m (Nat.le_refl _)) 4 (by simp); exact opv rfl rfl (by simp [go_sem, a.e 49 (d 5 rfl), cu]) rfl,
  fun f s W c d j k l a => by have li_ := Nat.not_le.2 hpa4; have lz_ : (pa4 : Int) < (np : Int) := (by omega); exact opv rfl rfl (by simp [go_sem, a.e 45 (d 1 rfl), a.e 50 (d 6 rfl), li_, hpa4, lz_]) rfl,
  fun f s W c d j k l a => opv rfl rfl (by simp [go_sem, a.e 51 (d 7 rfl)]) rfl,
  fun f s W c d j k l a => by have m := bwt fB25 c; have E_ := (hP.below m).2 pa4 hpa4; rw [epa4] at E_; obtain ⟨u0_, u1_, u2_, u3_, u4_, u5_, u6_, u7_⟩ := E_; have v0_ : W.cell? ⟨bp, oP + pa4 * 8, none⟩ = some (.int .i64 PA4.kind) := u0_; exact opv rfl rfl (by simp [go_sem, a.e 52 (d 8 rfl), v0_]) rfl,
  fun f s W c d j k l a => opm (a.v 7 k25_7),
  fun f s W c d j k l a => opv rfl rfl (by simp [go_sem, a.e 53 (d 9 rfl), a.e 54 (d 10 rfl), hk4]) rfl, trivial⟩ ?_
 intro f26 s26 W26 hB26 g26 hg26 z26
 have q66' := (q65'.bw hB26)
 have k26_39 := kt hg26 39 (kt hg25 39 k24_39)
 have k26_55 := kt hg26 55 (hB26.is 11)
 refine wp_cond_false ((fr_eval rfl).trans k26_55) ?_
 refine wp_skip ?_
 refine ibn ?_
 refine hK46 _ _ ?_
 refine ry 2 [(56, 0), (39, 1)] [[], [0]] (rel [iI 5, iI 5])
  ⟨fun f s W c d j k l a => opv rfl rfl (by simp [go_sem, a.e 39 ((k 1 39 rfl rfl).trans k26_39), IntWalk.i64_in (5) (by omega)]) rfl,
  fun f s W c d j k l a => opm (a.v 56 (d 0 rfl)), trivial⟩ ?_
 intro f27 s27 W27 hB27 g27 hg27 z27
 have q67' := (q66'.bw hB27)
 refine wpe ?_
 have k27_38 := kt hg27 38 (kt hg26 38 (kt hg25 38 (kt hg24 38 k23_38)))
 have k27_39 := kt hg27 39 (hB27.is 1)
 refine then_normal ?_
 rw [rounds_succ]
 refine rw_ 1 [(40, 0)] [[]] (rel [iB false])
  ⟨fun f s W c d j k l a => opv rfl rfl (by simp [go_sem, a.e 39 k27_39, a.e 38 k27_38]) rfl, trivial⟩ ?_
 intro f28 s28 W28 hB28 g28 hg28 z28
 have q68' := (q67'.bw hB28)
 have k28_40 := kt hg28 40 (hB28.is 0)
 refine wp_seq_k fun K51 hK51 => ?_
 refine wp_cond_false ((fr_eval rfl).trans k28_40) ?_
 refine wp_exit ?_
 refine then_exit ?_
 refine then_exit ?_
 refine inBlock_at ?_
 refine hK13 _ _ ?_
 refine rw_ 1 [(4, 0)] [[]] (rel [iI 0])
  ⟨fun f s W c d j k l a => opz, trivial⟩ ?_
 intro f29 s29 W29 hB29 g29 hg29 z29
 have fB29 := hB29.f (hB28.f (hB27.f (hB26.f fB25)))
 have q69' := (q68'.bw hB29)
 have k29_4 := kt hg29 4 (hB29.is 0)
 refine wp_ret ?_
 refine leave_one (N := 57) (.inr rfl) Try.results54 rfl k29_4 ?_
 exact ⟨rfl, fB29⟩
end Go.Proofs.Ytolnpbpeifpbjaa
