/- Part of the proof: what the claim leans on. -/
import Derived.Test.YtolnpbpeifpbjaaVAL
import Derived.Test.YtolnpbpeifpbjaaVAM
import Derived.Test.YtolnpbpeifpbjaaVAJ
set_option maxHeartbeats 16000000
set_option maxRecDepth 100000
set_option linter.unusedSimpArgs false
set_option linter.unusedVariables false
namespace Go.Proofs.Ytolnpbpeifpbjaa
open Go.RowKit
theorem in_value {n : Nat} {P : Program} {ops : Array Oper} {Q : Exit → Act → World → Prop} {i d N : Nat} {L : List Nat} {g : Nat → Value} {W : World} {o : Oper} {v : Value} (ho : ops[i]? = some o) (hg : o.guard = none) (hd : o.dst = some d) (hr : (execOp (fr N g).eval o).run P W = .ok (.value v) W)
    (h : wpOpsIn Fence.wide n P ops Q L (fr N (upd g d v)) W) : wpOpsIn Fence.wide n P ops Q (i :: L) (fr N g) W := by
  rw [wpOpsIn_cons]
  unfold wpOpIn
  simp only [ho, Region.wanted, hg, if_true]
  refine ⟨fun _ _ => trivial, ?_⟩
  show o.uponIn _ _ _ _ _ _ ((execOp (fr N g).eval o).run P W)
  rw [hr]
  show wpOpsIn _ _ _ _ _ _ ((fr N g).put o.dst v) W
  rw [hd, fr_put]; exact h
theorem in_round {n : Nat} {P : Program} {ops : Array Oper} {Q : Exit → Act → World → Prop} {i d N l : Nat} {args : Array Value} {L : List Nat} {g : Nat → Value} {W : World} {o : Oper} {R : Ending → World → Prop} (ho : ops[i]? = some o) (hg : o.guard = none) (hd : o.dst = some d) (hr : (execOp (fr N g).eval o).run P W = (Instr.yield l args).run P W)
    (hy : YieldAt Fence.wide (n - 1) P l args W R) (hK : ∀ v W', R (.returned v) W' → wpOpsIn Fence.wide n P ops Q L (fr N (upd g d v)) W') (h1 : ∀ W', ¬ R .outgrown W') (h2 : ∀ c W', ¬ R (.panicked c) W') : wpOpsIn Fence.wide n P ops Q (i :: L) (fr N g) W := by
  rw [wpOpsIn_cons]
  unfold wpOpIn
  simp only [ho, Region.wanted, hg, if_true]
  refine ⟨fun _ _ => trivial, ?_⟩
  show o.uponIn _ _ _ _ _ _ ((execOp (fr N g).eval o).run P W)
  obtain ⟨fn, tmps, assign, body, h3, h4⟩ := hy
  rw [hr, h3, Oper.uponIn_round]
  refine ⟨fun h => by simp [Fence.wide] at h, h4.mono fun e W' he => ?_⟩
  cases e with
  | returned v =>
    show wpOpsIn _ _ _ _ _ _ ((fr N g).put o.dst v) W'
    rw [hd, fr_put]; exact hK v W' he
  | panicked c => exact absurd he (h2 c W')
  | outgrown => exact absurd he (h1 W')
theorem layers_1 (ps : Nat → Pa) (qs : Nat → Fu) (bp oP np cp bq oq nq cq : Nat) (tx ux cx tf uf cf pa0 pa1 pa2 fa0 : Nat) (PA0 PA1 PA2 : Pa) (FA0 : Fu) (wh : Int) (qv0 : Int) (l bn : Nat) (J : Nat → World → Prop) (w v1 : World)  (hP : PaR w bp oP np ps) (hQ : FuR w bq oq nq qs) (hpi : ∀ i, i < np → PaIn (ps i)) (hqi : ∀ i, i < nq → FuIn (qs i)) (np1 : 1 ≤ np) (np8 : np ≤ 8) (nq1 : 1 ≤ nq) (nq4 : nq ≤ 4) (hX : Ii w (some ⟨tx, ux, none⟩) 3 cx [(pa0 : Int), (pa1 : Int), (pa2 : Int)]) (hF : Ii w (some ⟨tf, uf, none⟩) 1 cf [(fa0 : Int)]) (hpa0 : pa0 < np) (epa0 : ps pa0 = PA0) (hpa1 : pa1 < np) (epa1 : ps pa1 = PA1) (hpa2 : pa2 < np) (epa2 : ps pa2 = PA2) (hfa0 : fa0 < nq) (efa0 : qs fa0 = FA0) (hk0 : PA0.kind = 1) (hk1 : PA1.kind = 2) (hk2 : PA2.kind = 1) (hwh : FA0.pitch = wh) (gwh : 0 ≤ wh ∧ wh ≤ 100000000) (gw1 : 0 ≤ FA0.pitch ∧ FA0.pitch ≤ 10000) (hB0 : Below w.heap.size w v1) (hbw : w.heap.size ≤ bn) (hbn : bn < v1.heap.size) (hJb : ∀ i W W', J i W → Below W.heap.size W W' → J i W') (hJ0 : J 0 v1) (hqv0 : wh / FA0.pitch = qv0) (gqv0 : 0 ≤ qv0 ∧ qv0 ≤ 100000000) (gqd0 : 0 ≤ qv0 * FA0.draw ∧ qv0 * FA0.draw ≤ 200000000) (gpi0 : 1000 ≤ FA0.pitch ∧ FA0.pitch ≤ 10000) (hY0 : ∀ W, J 0 W → YieldAt Fence.wide 7 Try.prog l #[.int .i64 (pa0 : Int), .int .i64 wh] W fun e W' => e = .returned (.bool true) ∧ J 1 W' ∧ KeepX bn W W') (hY1 : ∀ W, J 1 W → YieldAt Fence.wide 7 Try.prog l #[.int .i64 (pa1 : Int), .int .i64 (qv0 * FA0.draw)] W fun e W' => e = .returned (.bool true) ∧ J 2 W' ∧ KeepX bn W W') (hY2 : ∀ W, J 2 W → YieldAt Fence.wide 7 Try.prog l #[.int .i64 (pa2 : Int), .int .i64 wh] W fun e W' => e = .returned (.bool true) ∧ J 3 W' ∧ KeepX bn W W') :
  Calls Try.prog 104 #[.agg #[.slice (some ⟨tx, ux, none⟩) 3 cx, .slice (some ⟨tf, uf, none⟩) 1 cf, .slice (some ⟨bp, oP, none⟩) np cp, .slice (some ⟨bq, oq, none⟩) nq cq, .int .i64 wh], .func (.yield l) #[] #[]] v1 (fun e w' => (∃ v, e = .returned v) ∧ J 3 w') := by
 refine calls_fr Try.func104 Try.ntmps104 rfl rfl fun g hg => ?_
 have k0 : g 0 = .agg #[.slice (some ⟨tx, ux, none⟩) 3 cx, .slice (some ⟨tf, uf, none⟩) 1 cf, .slice (some ⟨bp, oP, none⟩) np cp, .slice (some ⟨bq, oq, none⟩) nq cq, .int .i64 wh] := hg 0
 have k1 : g 1 = .func (.yield l) #[] #[] := hg 1
 clear hg
 have fB0 : Below w.heap.size w v1 := hB0
 refine rw_ 1 [(2, 0)] [[]] (rel [bx 0 #[.slice (some ⟨tx, ux, none⟩) 3 cx, .slice (some ⟨tf, uf, none⟩) 1 cf, .slice (some ⟨bp, oP, none⟩) np cp, .slice (some ⟨bq, oq, none⟩) nq cq, .int .i64 wh] 95])
  ⟨fun f s W hW c j k m a => opb rfl rfl (by simp [go_sem, a.e 0 k0]), trivial⟩ ?_
 intro f1 s1 W1 hB1 g1 hg1 z1
 have q16' := (hJb 0 _ _ hJ0 hB1.below)
 obtain ⟨r1_0, br1_0⟩ := hB1.is 0
 have lr1_0 := hB1.lr 0 br1_0
 have k1_2 := kt hg1 2 r1_0
 refine rw_ 5 [(8, 0), (9, 1), (10, 2), (11, 3), (12, 4)] [[], [0], [1], [2], []] (rel [is (.pointer (some ⟨(s1 0), 0, none⟩)), is (.pointer (some ⟨(s1 0), 0, none⟩)), is (.slice (some ⟨tx, ux, none⟩) 3 cx), iI 3, iI 0])
  ⟨fun f s W hW c j k m a => opv rfl rfl (by simp [go_sem, a.e 2 k1_2]) rfl,
  fun f s W hW c j k m a => opv rfl rfl (by simp [go_sem, a.e 8 (c 0 rfl)]) rfl,
  fun f s W hW c j k m a => opv rfl rfl (by simp [go_sem, a.e 9 (c 1 rfl), cb br1_0 hW 0]) rfl,
  fun f s W hW c j k m a => opv rfl rfl (by simp [go_sem, a.e 10 (c 2 rfl)]) rfl,
  fun f s W hW c j k m a => opz, trivial⟩ ?_
 intro f2 s2 W2 hB2 g2 hg2 z2
 have q17' := (hJb 0 _ _ q16' hB2.below)
 have k2_11 := kt hg2 11 (hB2.is 3)
 have k2_12 := kt hg2 12 (hB2.is 4)
 refine wp_block ?_
 refine wp_loop_rounds 4 ?_
 rw [rounds_succ]
 refine rw_ 1 [(13, 0)] [[]] (rel [iB true])
  ⟨fun f s W hW c j k m a => opv rfl rfl (by simp [go_sem, a.e 12 k2_12, a.e 11 k2_11]) rfl, trivial⟩ ?_
 intro f3 s3 W3 hB3 g3 hg3 z3
 have fB3 := hB3.f (hB2.f (hB1.f fB0))
 have q18' := (hJb 0 _ _ q17' hB3.below)
 have k3_10 := kt hg3 10 (kt hg2 10 (hB2.is 2))
 have k3_12 := kt hg3 12 k2_12
 have k3_13 := kt hg3 13 (hB3.is 0)
 refine wp_seq_k fun K4 hK4 => ?_
 refine wp_cond_true ((fr_eval rfl).trans k3_13) ?_
 refine wp_skip ?_
 refine hK4 _ _ ?_
 refine wp_seq_k fun K6 hK6 => ?_
 refine wp_block ?_
 refine rw_ 5 [(14, 0), (15, 1), (16, 2), (4, 3), (5, 4)] [[], [], [1], [0], [2]] (rel [iI 0, is (.pointer (some ⟨tx, ux, none⟩)), iI ((pa0 : Int)), iI 0, iI ((pa0 : Int))])
  ⟨fun f s W hW c j k m a => opm (a.v 12 k3_12),
  fun f s W hW c j k m a => opv rfl rfl (by simp [go_sem, a.e 10 k3_10, a.e 12 k3_12]) rfl,
  fun f s W hW c j k m a => by have p := bwt fB3 hW; have cu : W.cell? ⟨tx, ux, none⟩ = some (.int .i64 (pa0 : Int)) := ii_cell (hX.below p (Nat.le_refl _)) 0 (by simp); exact opv rfl rfl (by simp [go_sem, a.e 15 (c 1 rfl), cu]) rfl,
  fun f s W hW c j k m a => opm (a.v 14 (c 0 rfl)),
  fun f s W hW c j k m a => opm (a.v 16 (c 2 rfl)), trivial⟩ ?_
 intro f4 s4 W4 hB4 g4 hg4 z4
 have b4_0 := hB4.b (hB3.b (hB2.b br1_0))
 have q19' := (hJb 0 _ _ q18' hB4.below)
 have k4_2 := kt hg4 2 (kt hg3 2 (kt hg2 2 k1_2))
 refine rw_ 3 [(17, 0), (18, 1), (6, 2)] [[], [0], [1]] (rel [is (.pointer (some ⟨(s1 0), 4, none⟩)), iI wh, iI wh])
  ⟨fun f s W hW c j k m a => opv rfl rfl (by simp [go_sem, a.e 2 k4_2]) rfl,
  fun f s W hW c j k m a => opv rfl rfl (by simp [go_sem, a.e 17 (c 0 rfl), cb b4_0 hW 4]) rfl,
  fun f s W hW c j k m a => opm (a.v 18 (c 1 rfl)), trivial⟩ ?_
 intro f5 s5 W5 hB5 g5 hg5 z5
 have q20' := (hJb 0 _ _ q19' hB5.below)
 have k5_4 := kt hg5 4 (kt hg4 4 (hB4.is 3))
 refine wp_seq_k fun K9 hK9 => ?_
 refine rw_ 3 [(19, 0), (20, 1), (21, 2)] [[], [0], [1]] (rel [iI 0, iI 0, iB false])
  ⟨fun f s W hW c j k m a => opm (a.v 4 k5_4),
  fun f s W hW c j k m a => by have qw_ := IntWalk.i64_in (0) (by decide); exact opv rfl rfl (by simp [go_sem, a.e 19 (c 0 rfl), qw_]) rfl,
  fun f s W hW c j k m a => opv rfl rfl (by simp [go_sem, a.e 20 (c 1 rfl)]) rfl, trivial⟩ ?_
 intro f6 s6 W6 hB6 g6 hg6 z6
 have fB6 := hB6.f (hB5.f (hB4.f fB3))
 have b6_0 := hB6.b (hB5.b b4_0)
 have q21' := (hJb 0 _ _ q20' hB6.below)
 have k6_1 := kt hg6 1 (kt hg5 1 (kt hg4 1 (kt hg3 1 (kt hg2 1 (kt hg1 1 k1)))))
 have k6_21 := kt hg6 21 (hB6.is 2)
 refine wp_cond_false ((fr_eval rfl).trans k6_21) ?_
 refine wp_skip ?_
 refine hK9 _ _ ?_
 refine wp_seq_k fun K12 hK12 => ?_
 refine (wpIn_wide (n := 8)).1 (wpIn_region ?_)
 show wpOpsIn _ _ _ _ _ [0, 1, 2, 3, 4] _ _
 refine in_value (o := _) rfl rfl rfl (v := .func (.yield l) #[] #[]) (by simp [go_sem, frv 47 k6_1]) ?_
 generalize hg7 : upd g6 41 (.func (.yield l) #[] #[]) = g7
 have k7_5 := ku hg7 5 (kt hg6 5 (kt hg5 5 (kt hg4 5 (hB4.is 4))))
 refine in_value (o := _) rfl rfl rfl (v := .int .i64 ((pa0 : Int))) (by simp [go_sem, frv 47 k7_5]) ?_
 generalize hg8 : upd g7 42 (.int .i64 ((pa0 : Int))) = g8
 have k8_6 := ku hg8 6 (ku hg7 6 (kt hg6 6 (kt hg5 6 (hB5.is 2))))
 refine in_value (o := _) rfl rfl rfl (v := .int .i64 wh) (by simp [go_sem, frv 47 k8_6]) ?_
 generalize hg9 : upd g8 43 (.int .i64 wh) = g9
 have k9_41 := ku hg9 41 (ku hg8 41 (kt hg7 41 (upd_same _ _ _)))
 have k9_42 := ku hg9 42 (kt hg8 42 (upd_same _ _ _))
 have k9_43 := kt hg9 43 (upd_same _ _ _)
 refine in_round (o := _) (d := 44) rfl rfl rfl (l := l) (args := #[.int .i64 ((pa0 : Int)), .int .i64 wh]) (by simp [go_sem, frv 47 k9_41, frv 47 k9_42, frv 47 k9_43]) (hY0 W6 q21') ?_ (fun _ h => nomatch h.1) (fun _ _ h => nomatch h.1)
 rintro v_ W10 ⟨rv10, jj10, kx10⟩
 obtain rfl := Ending.returned.inj rv10
 have fB10 := Below.trans fB6 (kx10.below hbw (fB6).size)
 have z10 := kx10.size
 have b10_0 := kx10.block _ _ (by omega) b6_0
 generalize hg10 : upd g9 44 (.bool true) = g10
 have k10_44 := kt hg10 44 (upd_same _ _ _)
 refine in_value (o := _) rfl rfl rfl (v := .bool false) (by simp [go_sem, frv 47 k10_44]) ?_
 generalize hg11 : upd g10 45 (.bool false) = g11
 have k11_12 := ku hg11 12 (ku hg10 12 (ku hg9 12 (ku hg8 12 (ku hg7 12 (kt hg6 12 (kt hg5 12 (kt hg4 12 k3_12)))))))
 have k11_45 := kt hg11 45 (upd_same _ _ _)
 refine hK12 _ _ ?_
 refine wp_cond_false ((fr_eval rfl).trans k11_45) ?_
 refine wp_skip ?_
 refine ibn ?_
 refine hK6 _ _ ?_
 refine ry 2 [(46, 0), (12, 1)] [[], [0]] (rel [iI 1, iI 1])
  ⟨fun f s W hW c j k m a => opv rfl rfl (by simp [go_sem, a.e 12 ((k 1 12 rfl rfl).trans k11_12), IntWalk.i64_in (1) (by omega)]) rfl,
  fun f s W hW c j k m a => opm (a.v 46 (c 0 rfl)), trivial⟩ ?_
 intro f12 s12 W12 hB12 g12 hg12 z12
 have q22' := (hJb 1 _ _ jj10 hB12.below)
 refine wpe ?_
 have k12_11 := kt hg12 11 (ku hg11 11 (ku hg10 11 (ku hg9 11 (ku hg8 11 (ku hg7 11 (kt hg6 11 (kt hg5 11 (kt hg4 11 (kt hg3 11 k2_11)))))))))
 have k12_12 := kt hg12 12 (hB12.is 1)
 refine then_normal ?_
 rw [rounds_succ]
 refine rw_ 1 [(13, 0)] [[]] (rel [iB true])
  ⟨fun f s W hW c j k m a => opv rfl rfl (by simp [go_sem, a.e 12 k12_12, a.e 11 k12_11]) rfl, trivial⟩ ?_
 intro f13 s13 W13 hB13 g13 hg13 z13
 have fB13 := hB13.f (hB12.f fB10)
 have q23' := (hJb 1 _ _ q22' hB13.below)
 have k13_10 := kt hg13 10 (kt hg12 10 (ku hg11 10 (ku hg10 10 (ku hg9 10 (ku hg8 10 (ku hg7 10 (kt hg6 10 (kt hg5 10 (kt hg4 10 k3_10)))))))))
 have k13_12 := kt hg13 12 k12_12
 have k13_13 := kt hg13 13 (hB13.is 0)
 refine wp_seq_k fun K15 hK15 => ?_
 refine wp_cond_true ((fr_eval rfl).trans k13_13) ?_
 refine wp_skip ?_
 refine hK15 _ _ ?_
 refine wp_seq_k fun K17 hK17 => ?_
 refine wp_block ?_
 refine rw_ 5 [(14, 0), (15, 1), (16, 2), (4, 3), (5, 4)] [[], [], [1], [0], [2]] (rel [iI 1, is (.pointer (some ⟨tx, ux + 1, none⟩)), iI ((pa1 : Int)), iI 1, iI ((pa1 : Int))])
  ⟨fun f s W hW c j k m a => opm (a.v 12 k13_12),
  fun f s W hW c j k m a => opv rfl rfl (by simp [go_sem, a.e 10 k13_10, a.e 12 k13_12]) rfl,
  fun f s W hW c j k m a => by have p := bwt fB13 hW; have cu : W.cell? ⟨tx, ux + 1, none⟩ = some (.int .i64 (pa1 : Int)) := ii_cell (hX.below p (Nat.le_refl _)) 1 (by simp); exact opv rfl rfl (by simp [go_sem, a.e 15 (c 1 rfl), cu]) rfl,
  fun f s W hW c j k m a => opm (a.v 14 (c 0 rfl)),
  fun f s W hW c j k m a => opm (a.v 16 (c 2 rfl)), trivial⟩ ?_
 intro f14 s14 W14 hB14 g14 hg14 z14
 have b14_0 := hB14.b (hB13.b (hB12.b b10_0))
 have q24' := (hJb 1 _ _ q23' hB14.below)
 have k14_2 := kt hg14 2 (kt hg13 2 (kt hg12 2 (ku hg11 2 (ku hg10 2 (ku hg9 2 (ku hg8 2 (ku hg7 2 (kt hg6 2 (kt hg5 2 k4_2)))))))))
 refine rw_ 3 [(17, 0), (18, 1), (6, 2)] [[], [0], [1]] (rel [is (.pointer (some ⟨(s1 0), 4, none⟩)), iI wh, iI wh])
  ⟨fun f s W hW c j k m a => opv rfl rfl (by simp [go_sem, a.e 2 k14_2]) rfl,
  fun f s W hW c j k m a => opv rfl rfl (by simp [go_sem, a.e 17 (c 0 rfl), cb b14_0 hW 4]) rfl,
  fun f s W hW c j k m a => opm (a.v 18 (c 1 rfl)), trivial⟩ ?_
 intro f15 s15 W15 hB15 g15 hg15 z15
 have q25' := (hJb 1 _ _ q24' hB15.below)
 have k15_4 := kt hg15 4 (kt hg14 4 (hB14.is 3))
 refine wp_seq_k fun K20 hK20 => ?_
 refine rw_ 3 [(19, 0), (20, 1), (21, 2)] [[], [0], [1]] (rel [iI 1, iI 1, iB true])
  ⟨fun f s W hW c j k m a => opm (a.v 4 k15_4),
  fun f s W hW c j k m a => by have qw_ := IntWalk.i64_in (1) (by decide); exact opv rfl rfl (by simp [go_sem, a.e 19 (c 0 rfl), qw_]) rfl,
  fun f s W hW c j k m a => opv rfl rfl (by simp [go_sem, a.e 20 (c 1 rfl)]) rfl, trivial⟩ ?_
 intro f16 s16 W16 hB16 g16 hg16 z16
 have fB16 := hB16.f (hB15.f (hB14.f fB13))
 have b16_0 := hB16.b (hB15.b b14_0)
 have q26' := (hJb 1 _ _ q25' hB16.below)
 have k16_2 := kt hg16 2 (kt hg15 2 k14_2)
 have k16_4 := kt hg16 4 k15_4
 have k16_21 := kt hg16 21 (hB16.is 2)
 refine wp_cond_true ((fr_eval rfl).trans k16_21) ?_
 refine wp_seq_k fun K23 hK23 => ?_
 refine region_doL (LeT (W16.heap.size) 105 (justC (#[.int .i64 FA0.pitch, .int .i64 FA0.draw, .int .i64 FA0.h1, .int .i64 FA0.h2]))) LeT.refl (LeT.drew justC_b) LeT.trans (fun _ _ h => h.size) 14 [(22, 0), (23, 1), (24, 2), (25, 3), (26, 4), (27, 5), (28, 6), (29, 7), (30, 8), (31, 9), (32, 10), (33, 11), (7, 12)] [[], [0], [0, 1], [], [3], [3, 4], [], [6], [3, 4, 5, 6, 7], [3, 4, 5, 6, 7, 8], [0, 1, 2, 3, 4, 5, 6, 7, 8, 9], [0, 1, 2, 3, 4, 5, 6, 7, 8, 9, 10], [], [0, 1, 2, 3, 4, 5, 6, 7, 8, 9, 10, 11, 12]] (rel [is (.pointer (some ⟨(s1 0), 2, none⟩)),
   is (.pointer (some ⟨(s1 0), 3, none⟩)),
   is (.slice (some ⟨bq, oq, none⟩) nq cq),
   is (.pointer (some ⟨(s1 0), 0, none⟩)),
   is (.pointer (some ⟨(s1 0), 1, none⟩)),
   is (.slice (some ⟨tf, uf, none⟩) 1 cf),
   is (.int .i64 1),
   is (.int .i64 0),
   is (.pointer (some ⟨tf, uf, none⟩)),
   is (.int .i64 ((fa0 : Int))),
   is (.pointer (some ⟨bq, oq + fa0 * 4, none⟩)),
   is (.agg #[.int .i64 FA0.pitch, .int .i64 FA0.draw, .int .i64 FA0.h1, .int .i64 FA0.h2]),
   boxT (W16.heap.size) 105 4 12,
   stoT (W16.heap.size) 105 (justC (#[.int .i64 FA0.pitch, .int .i64 FA0.draw, .int .i64 FA0.h1, .int .i64 FA0.h2])) 12]) (by kernel_rfl) (by kernel_rfl) (by kernel_rfl) (by kernel_rfl)
  ⟨is_kl, is_kl, is_kl, is_kl, is_kl, is_kl, is_kl, is_kl, is_kl, is_kl, is_kl, is_kl, boxT_k, stoT_k (by simp), trivial⟩
  ⟨fun f s W hT c j k m a => by have hW := LeT.below hT (Nat.le_refl _); exact OpDo.l (LeT.of_below justC_b) (opv rfl rfl (by simp [go_sem, a.e 2 k16_2]) rfl),
  fun f s W hT c j k m a => by have hW := LeT.below hT (Nat.le_refl _); exact OpDo.l (LeT.of_below justC_b) (opv rfl rfl (by simp [go_sem, a.e 22 (c 0 rfl)]) rfl),
  fun f s W hT c j k m a => by have hW := LeT.below hT (Nat.le_refl _); exact OpDo.l (LeT.of_below justC_b) (opv rfl rfl (by simp [go_sem, a.e 23 (c 1 rfl), cb b16_0 hW 3]) rfl),
  fun f s W hT c j k m a => by have hW := LeT.below hT (Nat.le_refl _); exact OpDo.l (LeT.of_below justC_b) (opv rfl rfl (by simp [go_sem, a.e 2 k16_2]) rfl),
  fun f s W hT c j k m a => by have hW := LeT.below hT (Nat.le_refl _); exact OpDo.l (LeT.of_below justC_b) (opv rfl rfl (by simp [go_sem, a.e 25 (c 3 rfl)]) rfl),
  fun f s W hT c j k m a => by have hW := LeT.below hT (Nat.le_refl _); exact OpDo.l (LeT.of_below justC_b) (opv rfl rfl (by simp [go_sem, a.e 26 (c 4 rfl), cb b16_0 hW 1]) rfl),
  fun f s W hT c j k m a => by have hW := LeT.below hT (Nat.le_refl _); exact OpDo.l (LeT.of_below justC_b) (opv rfl rfl (by simp [go_sem, a.e 4 k16_4]) rfl),
  fun f s W hT c j k m a => by have hW := LeT.below hT (Nat.le_refl _); exact OpDo.l (LeT.of_below justC_b) (by have qw_ := IntWalk.i64_in (0) (by decide); exact opv rfl rfl (by simp [go_sem, a.e 28 (c 6 rfl), qw_]) rfl),
  fun f s W hT c j k m a => by have hW := LeT.below hT (Nat.le_refl _); exact OpDo.l (LeT.of_below justC_b) (opv rfl rfl (by simp [go_sem, a.e 27 (c 5 rfl), a.e 29 (c 7 rfl)]) rfl),
  fun f s W hT c j k m a => by have hW := LeT.below hT (Nat.le_refl _); exact OpDo.l (LeT.of_below justC_b) (by have p := bwt fB16 hW; have cu : W.cell? ⟨tf, uf, none⟩ = some (.int .i64 (fa0 : Int)) := ii_cell (hF.below p (Nat.le_refl _)) 0 (by simp); exact opv rfl rfl (by simp [go_sem, a.e 30 (c 8 rfl), cu]) rfl),
  fun f s W hT c j k m a => by have hW := LeT.below hT (Nat.le_refl _); exact OpDo.l (LeT.of_below justC_b) (by have li_ := Nat.not_le.2 hfa0; have lz_ : (fa0 : Int) < (nq : Int) := (by omega); exact opv rfl rfl (by simp [go_sem, a.e 24 (c 2 rfl), a.e 31 (c 9 rfl), li_, hfa0, lz_]) rfl),
  fun f s W hT c j k m a => by have hW := LeT.below hT (Nat.le_refl _); exact OpDo.l (LeT.of_below justC_b) (by have p := bwt fB16 hW; have E_ := (hQ.below p).2 fa0 hfa0; rw [efa0] at E_; obtain ⟨u0_, u1_, u2_, u3_⟩ := E_; have v0_ : W.cell? ⟨bq, oq + fa0 * 4, none⟩ = some (.int .i64 FA0.pitch) := u0_; have v1_ : W.cell? ⟨bq, oq + fa0 * 4 + 1, none⟩ = some (.int .i64 FA0.draw) := u1_; have v2_ : W.cell? ⟨bq, oq + fa0 * 4 + 2, none⟩ = some (.int .i64 FA0.h1) := u2_; have v3_ : W.cell? ⟨bq, oq + fa0 * 4 + 3, none⟩ = some (.int .i64 FA0.h2) := u3_; exact opv rfl rfl (by simp [go_sem, a.e 32 (c 10 rfl), v0_, v1_, v2_, v3_]) rfl),
  fun f s W hT c j k m a => opT (cs := #[.int .i64 0, .int .i64 0, .int .i64 0, .int .i64 0]) justC_b (hT.size) rfl rfl (by simp [go_sem]) rfl,
  fun f s W hT c j k m a => by exact stoT_do (#[.int .i64 FA0.pitch, .int .i64 FA0.draw, .int .i64 FA0.h1, .int .i64 FA0.h2]) rfl (by decide) (c 12 rfl) (a.v 7 (c 12 rfl).1) (a.v 33 (c 11 rfl)) rfl rfl (by rfl) (by rfl) ((rfl : justC (#[.int .i64 FA0.pitch, .int .i64 FA0.draw, .int .i64 FA0.h1, .int .i64 FA0.h2]) (#[.int .i64 FA0.pitch, .int .i64 FA0.draw, .int .i64 FA0.h1, .int .i64 FA0.h2]) W)) (fun _ _ _ h => h) (fun _ _ _ _ _ h => h), trivial⟩ ?_
 intro f17 s17 W17 hB17
 have hb17 := LeT.below hB17.le (Nat.le_refl _)
 have fB17 := bwt fB16 hb17
 have z17 : W16.heap.size ≤ W17.heap.size := hb17.size
 have b17_0 := bwb b16_0 hb17
 have q27' := (hJb 1 _ _ q26' hb17)
 obtain ⟨r17_12, lb17, -⟩ := hB17.is 12
 obtain ⟨-, cs17, bs17, hG17⟩ := hB17.is 13
 have hG17' : cs17 = #[.int .i64 FA0.pitch, .int .i64 FA0.draw, .int .i64 FA0.h1, .int .i64 FA0.h2] := hG17
 subst hG17'
 have lr17_12 : W16.heap.size ≤ s17 12 ∧ s17 12 < W17.heap.size := ⟨lb17, ltb bs17⟩
 generalize hg17 : ov [(22, 0), (23, 1), (24, 2), (25, 3), (26, 4), (27, 5), (28, 6), (29, 7), (30, 8), (31, 9), (32, 10), (33, 11), (7, 12)] f17 g16 = g17
 have k17_6 := kt hg17 6 (kt hg16 6 (kt hg15 6 (hB15.is 2)))
 have k17_7 := kt hg17 7 r17_12
 refine wpe ?_
 refine hK23 _ _ ?_
 refine ry 8 [(34, 0), (35, 1), (36, 2), (37, 3), (38, 4), (39, 5), (40, 6), (6, 7)] [[], [], [1], [0, 2], [], [4], [3, 5], [0, 6]] (rel [iI wh, is (.pointer (some ⟨(s17 12), 0, none⟩)), iI FA0.pitch, iI qv0, is (.pointer (some ⟨(s17 12), 1, none⟩)), iI FA0.draw, iI (qv0 * FA0.draw), iI (qv0 * FA0.draw)])
  ⟨fun f s W hW c j k m a => opm (a.v 6 ((k 7 6 rfl rfl).trans k17_6)),
  fun f s W hW c j k m a => opv rfl rfl (by simp [go_sem, a.e 7 k17_7]) rfl,
  fun f s W hW c j k m a => opv rfl rfl (by simp [go_sem, a.e 35 (c 1 rfl), cb bs17 hW 0]) rfl,
  fun f s W hW c j k m a => by have qu_ : (wh).tdiv FA0.pitch = qv0 := (Int.tdiv_eq_ediv_of_nonneg (by omega)).trans hqv0; have qw_ := IntWalk.i64_in (qv0) (by omega); have qz_ : ¬ FA0.pitch = 0 := (by omega); exact opv rfl rfl (by simp [go_sem, a.e 34 (c 0 rfl), a.e 36 (c 2 rfl), qu_, qw_, qz_]) rfl,
  fun f s W hW c j k m a => opv rfl rfl (by simp [go_sem, a.e 7 k17_7]) rfl,
  fun f s W hW c j k m a => opv rfl rfl (by simp [go_sem, a.e 38 (c 4 rfl), cb bs17 hW 1]) rfl,
  fun f s W hW c j k m a => opv rfl rfl (by simp [go_sem, a.e 37 (c 3 rfl), a.e 39 (c 5 rfl), IntWalk.i64_in (qv0 * FA0.draw) (by omega)]) rfl,
  fun f s W hW c j k m a => opm (a.v 40 (c 6 rfl)), trivial⟩ ?_
 intro f18 s18 W18 hB18 g18 hg18 z18
 have fB18 := hB18.f fB17
 have b18_0 := hB18.b b17_0
 have q28' := (hJb 1 _ _ q27' hB18.below)
 refine hK20 _ _ ?_
 have k18_1 := kt hg18 1 (kt hg17 1 (kt hg16 1 (kt hg15 1 (kt hg14 1 (kt hg13 1 (kt hg12 1 (ku hg11 1 (ku hg10 1 (ku hg9 1 (ku hg8 1 (ku hg7 1 k6_1)))))))))))
 refine wp_seq_k fun K24 hK24 => ?_
 refine (wpIn_wide (n := 8)).1 (wpIn_region ?_)
 show wpOpsIn _ _ _ _ _ [0, 1, 2, 3, 4] _ _
 refine in_value (o := _) rfl rfl rfl (v := .func (.yield l) #[] #[]) (by simp [go_sem, frv 47 k18_1]) ?_
 generalize hg19 : upd g18 41 (.func (.yield l) #[] #[]) = g19
 have k19_5 := ku hg19 5 (kt hg18 5 (kt hg17 5 (kt hg16 5 (kt hg15 5 (kt hg14 5 (hB14.is 4))))))
 refine in_value (o := _) rfl rfl rfl (v := .int .i64 ((pa1 : Int))) (by simp [go_sem, frv 47 k19_5]) ?_
 generalize hg20 : upd g19 42 (.int .i64 ((pa1 : Int))) = g20
 have k20_6 := ku hg20 6 (ku hg19 6 (kt hg18 6 (hB18.is 7)))
 refine in_value (o := _) rfl rfl rfl (v := .int .i64 (qv0 * FA0.draw)) (by simp [go_sem, frv 47 k20_6]) ?_
 generalize hg21 : upd g20 43 (.int .i64 (qv0 * FA0.draw)) = g21
 have k21_41 := ku hg21 41 (ku hg20 41 (kt hg19 41 (upd_same _ _ _)))
 have k21_42 := ku hg21 42 (kt hg20 42 (upd_same _ _ _))
 have k21_43 := kt hg21 43 (upd_same _ _ _)
 refine in_round (o := _) (d := 44) rfl rfl rfl (l := l) (args := #[.int .i64 ((pa1 : Int)), .int .i64 (qv0 * FA0.draw)]) (by simp [go_sem, frv 47 k21_41, frv 47 k21_42, frv 47 k21_43]) (hY1 W18 q28') ?_ (fun _ h => nomatch h.1) (fun _ _ h => nomatch h.1)
 rintro v_ W22 ⟨rv22, jj22, kx22⟩
 obtain rfl := Ending.returned.inj rv22
 have fB22 := Below.trans fB18 (kx22.below hbw (fB18).size)
 have z22 := kx22.size
 have b22_0 := kx22.block _ _ (by omega) b18_0
 generalize hg22 : upd g21 44 (.bool true) = g22
 have k22_44 := kt hg22 44 (upd_same _ _ _)
 refine in_value (o := _) rfl rfl rfl (v := .bool false) (by simp [go_sem, frv 47 k22_44]) ?_
 generalize hg23 : upd g22 45 (.bool false) = g23
 have k23_12 := ku hg23 12 (ku hg22 12 (ku hg21 12 (ku hg20 12 (ku hg19 12 (kt hg18 12 (kt hg17 12 (kt hg16 12 (kt hg15 12 (kt hg14 12 k13_12)))))))))
 have k23_45 := kt hg23 45 (upd_same _ _ _)
 refine hK24 _ _ ?_
 refine wp_cond_false ((fr_eval rfl).trans k23_45) ?_
 refine wp_skip ?_
 refine ibn ?_
 refine hK17 _ _ ?_
 refine ry 2 [(46, 0), (12, 1)] [[], [0]] (rel [iI 2, iI 2])
  ⟨fun f s W hW c j k m a => opv rfl rfl (by simp [go_sem, a.e 12 ((k 1 12 rfl rfl).trans k23_12), IntWalk.i64_in (2) (by omega)]) rfl,
  fun f s W hW c j k m a => opm (a.v 46 (c 0 rfl)), trivial⟩ ?_
 intro f24 s24 W24 hB24 g24 hg24 z24
 have q29' := (hJb 2 _ _ jj22 hB24.below)
 refine wpe ?_
 have k24_11 := kt hg24 11 (ku hg23 11 (ku hg22 11 (ku hg21 11 (ku hg20 11 (ku hg19 11 (kt hg18 11 (kt hg17 11 (kt hg16 11 (kt hg15 11 (kt hg14 11 (kt hg13 11 k12_11)))))))))))
 have k24_12 := kt hg24 12 (hB24.is 1)
 refine then_normal ?_
 rw [rounds_succ]
 refine rw_ 1 [(13, 0)] [[]] (rel [iB true])
  ⟨fun f s W hW c j k m a => opv rfl rfl (by simp [go_sem, a.e 12 k24_12, a.e 11 k24_11]) rfl, trivial⟩ ?_
 intro f25 s25 W25 hB25 g25 hg25 z25
 have fB25 := hB25.f (hB24.f fB22)
 have q30' := (hJb 2 _ _ q29' hB25.below)
 have k25_10 := kt hg25 10 (kt hg24 10 (ku hg23 10 (ku hg22 10 (ku hg21 10 (ku hg20 10 (ku hg19 10 (kt hg18 10 (kt hg17 10 (kt hg16 10 (kt hg15 10 (kt hg14 10 k13_10)))))))))))
 have k25_12 := kt hg25 12 k24_12
 have k25_13 := kt hg25 13 (hB25.is 0)
 refine wp_seq_k fun K27 hK27 => ?_
 refine wp_cond_true ((fr_eval rfl).trans k25_13) ?_
 refine wp_skip ?_
 refine hK27 _ _ ?_
 refine wp_seq_k fun K29 hK29 => ?_
 refine wp_block ?_
 refine rw_ 5 [(14, 0), (15, 1), (16, 2), (4, 3), (5, 4)] [[], [], [1], [0], [2]] (rel [iI 2, is (.pointer (some ⟨tx, ux + 2, none⟩)), iI ((pa2 : Int)), iI 2, iI ((pa2 : Int))])
  ⟨fun f s W hW c j k m a => opm (a.v 12 k25_12),
  fun f s W hW c j k m a => opv rfl rfl (by simp [go_sem, a.e 10 k25_10, a.e 12 k25_12]) rfl,
  fun f s W hW c j k m a => by have p := bwt fB25 hW; have cu : W.cell? ⟨tx, ux + 2, none⟩ = some (.int .i64 (pa2 : Int)) := ii_cell (hX.below p (Nat.le_refl _)) 2 (by simp); exact opv rfl rfl (by simp [go_sem, a.e 15 (c 1 rfl), cu]) rfl,
  fun f s W hW c j k m a => opm (a.v 14 (c 0 rfl)),
  fun f s W hW c j k m a => opm (a.v 16 (c 2 rfl)), trivial⟩ ?_
 intro f26 s26 W26 hB26 g26 hg26 z26
 have b26_0 := hB26.b (hB25.b (hB24.b b22_0))
 have q31' := (hJb 2 _ _ q30' hB26.below)
 have k26_2 := kt hg26 2 (kt hg25 2 (kt hg24 2 (ku hg23 2 (ku hg22 2 (ku hg21 2 (ku hg20 2 (ku hg19 2 (kt hg18 2 (kt hg17 2 k16_2)))))))))
 refine rw_ 3 [(17, 0), (18, 1), (6, 2)] [[], [0], [1]] (rel [is (.pointer (some ⟨(s1 0), 4, none⟩)), iI wh, iI wh])
  ⟨fun f s W hW c j k m a => opv rfl rfl (by simp [go_sem, a.e 2 k26_2]) rfl,
  fun f s W hW c j k m a => opv rfl rfl (by simp [go_sem, a.e 17 (c 0 rfl), cb b26_0 hW 4]) rfl,
  fun f s W hW c j k m a => opm (a.v 18 (c 1 rfl)), trivial⟩ ?_
 intro f27 s27 W27 hB27 g27 hg27 z27
 have q32' := (hJb 2 _ _ q31' hB27.below)
 have k27_4 := kt hg27 4 (kt hg26 4 (hB26.is 3))
 refine wp_seq_k fun K32 hK32 => ?_
 refine rw_ 3 [(19, 0), (20, 1), (21, 2)] [[], [0], [1]] (rel [iI 2, iI 0, iB false])
  ⟨fun f s W hW c j k m a => opm (a.v 4 k27_4),
  fun f s W hW c j k m a => by have qw_ := IntWalk.i64_in (0) (by decide); exact opv rfl rfl (by simp [go_sem, a.e 19 (c 0 rfl), qw_]) rfl,
  fun f s W hW c j k m a => opv rfl rfl (by simp [go_sem, a.e 20 (c 1 rfl)]) rfl, trivial⟩ ?_
 intro f28 s28 W28 hB28 g28 hg28 z28
 have fB28 := hB28.f (hB27.f (hB26.f fB25))
 have q33' := (hJb 2 _ _ q32' hB28.below)
 have k28_1 := kt hg28 1 (kt hg27 1 (kt hg26 1 (kt hg25 1 (kt hg24 1 (ku hg23 1 (ku hg22 1 (ku hg21 1 (ku hg20 1 (ku hg19 1 k18_1)))))))))
 have k28_21 := kt hg28 21 (hB28.is 2)
 refine wp_cond_false ((fr_eval rfl).trans k28_21) ?_
 refine wp_skip ?_
 refine hK32 _ _ ?_
 refine wp_seq_k fun K35 hK35 => ?_
 refine (wpIn_wide (n := 8)).1 (wpIn_region ?_)
 show wpOpsIn _ _ _ _ _ [0, 1, 2, 3, 4] _ _
 refine in_value (o := _) rfl rfl rfl (v := .func (.yield l) #[] #[]) (by simp [go_sem, frv 47 k28_1]) ?_
 generalize hg29 : upd g28 41 (.func (.yield l) #[] #[]) = g29
 have k29_5 := ku hg29 5 (kt hg28 5 (kt hg27 5 (kt hg26 5 (hB26.is 4))))
 refine in_value (o := _) rfl rfl rfl (v := .int .i64 ((pa2 : Int))) (by simp [go_sem, frv 47 k29_5]) ?_
 generalize hg30 : upd g29 42 (.int .i64 ((pa2 : Int))) = g30
 have k30_6 := ku hg30 6 (ku hg29 6 (kt hg28 6 (kt hg27 6 (hB27.is 2))))
 refine in_value (o := _) rfl rfl rfl (v := .int .i64 wh) (by simp [go_sem, frv 47 k30_6]) ?_
 generalize hg31 : upd g30 43 (.int .i64 wh) = g31
 have k31_41 := ku hg31 41 (ku hg30 41 (kt hg29 41 (upd_same _ _ _)))
 have k31_42 := ku hg31 42 (kt hg30 42 (upd_same _ _ _))
 have k31_43 := kt hg31 43 (upd_same _ _ _)
 refine in_round (o := _) (d := 44) rfl rfl rfl (l := l) (args := #[.int .i64 ((pa2 : Int)), .int .i64 wh]) (by simp [go_sem, frv 47 k31_41, frv 47 k31_42, frv 47 k31_43]) (hY2 W28 q33') ?_ (fun _ h => nomatch h.1) (fun _ _ h => nomatch h.1)
 rintro v_ W32 ⟨rv32, jj32, kx32⟩
 obtain rfl := Ending.returned.inj rv32
 have fB32 := Below.trans fB28 (kx32.below hbw (fB28).size)
 have z32 := kx32.size
 generalize hg32 : upd g31 44 (.bool true) = g32
 have k32_44 := kt hg32 44 (upd_same _ _ _)
 refine in_value (o := _) rfl rfl rfl (v := .bool false) (by simp [go_sem, frv 47 k32_44]) ?_
 generalize hg33 : upd g32 45 (.bool false) = g33
 have k33_12 := ku hg33 12 (ku hg32 12 (ku hg31 12 (ku hg30 12 (ku hg29 12 (kt hg28 12 (kt hg27 12 (kt hg26 12 k25_12)))))))
 have k33_45 := kt hg33 45 (upd_same _ _ _)
 refine hK35 _ _ ?_
 refine wp_cond_false ((fr_eval rfl).trans k33_45) ?_
 refine wp_skip ?_
 refine ibn ?_
 refine hK29 _ _ ?_
 refine ry 2 [(46, 0), (12, 1)] [[], [0]] (rel [iI 3, iI 3])
  ⟨fun f s W hW c j k m a => opv rfl rfl (by simp [go_sem, a.e 12 ((k 1 12 rfl rfl).trans k33_12), IntWalk.i64_in (3) (by omega)]) rfl,
  fun f s W hW c j k m a => opm (a.v 46 (c 0 rfl)), trivial⟩ ?_
 intro f34 s34 W34 hB34 g34 hg34 z34
 have q34' := (hJb 3 _ _ jj32 hB34.below)
 refine wpe ?_
 have k34_11 := kt hg34 11 (ku hg33 11 (ku hg32 11 (ku hg31 11 (ku hg30 11 (ku hg29 11 (kt hg28 11 (kt hg27 11 (kt hg26 11 (kt hg25 11 k24_11)))))))))
 have k34_12 := kt hg34 12 (hB34.is 1)
 refine then_normal ?_
 rw [rounds_succ]
 refine rw_ 1 [(13, 0)] [[]] (rel [iB false])
  ⟨fun f s W hW c j k m a => opv rfl rfl (by simp [go_sem, a.e 12 k34_12, a.e 11 k34_11]) rfl, trivial⟩ ?_
 intro f35 s35 W35 hB35 g35 hg35 z35
 have fB35 := hB35.f (hB34.f fB32)
 have q35' := (hJb 3 _ _ q34' hB35.below)
 have k35_13 := kt hg35 13 (hB35.is 0)
 refine wp_seq_k fun K38 hK38 => ?_
 refine wp_cond_false ((fr_eval rfl).trans k35_13) ?_
 refine wp_exit ?_
 refine then_exit ?_
 refine then_exit ?_
 refine inBlock_at ?_
 refine leave_gen (v := .tuple #[]) (.inl rfl) (by simp [results, Try.results104, go_sem]) ?_
 exact ⟨⟨_, rfl⟩, q35'⟩
theorem layers_2 (ps : Nat → Pa) (qs : Nat → Fu) (bp oP np cp bq oq nq cq : Nat) (tx ux cx tf uf cf pa0 pa1 pa2 pa3 pa4 fa0 fa1 : Nat) (PA0 PA1 PA2 PA3 PA4 : Pa) (FA0 FA1 : Fu) (wh : Int) (qv0 qv1 : Int) (l bn : Nat) (J : Nat → World → Prop) (w v1 : World)  (hP : PaR w bp oP np ps) (hQ : FuR w bq oq nq qs) (hpi : ∀ i, i < np → PaIn (ps i)) (hqi : ∀ i, i < nq → FuIn (qs i)) (np1 : 1 ≤ np) (np8 : np ≤ 8) (nq1 : 1 ≤ nq) (nq4 : nq ≤ 4) (hX : Ii w (some ⟨tx, ux, none⟩) 5 cx [(pa0 : Int), (pa1 : Int), (pa2 : Int), (pa3 : Int), (pa4 : Int)]) (hF : Ii w (some ⟨tf, uf, none⟩) 2 cf [(fa0 : Int), (fa1 : Int)]) (hpa0 : pa0 < np) (epa0 : ps pa0 = PA0) (hpa1 : pa1 < np) (epa1 : ps pa1 = PA1) (hpa2 : pa2 < np) (epa2 : ps pa2 = PA2) (hpa3 : pa3 < np) (epa3 : ps pa3 = PA3) (hpa4 : pa4 < np) (epa4 : ps pa4 = PA4) (hfa0 : fa0 < nq) (efa0 : qs fa0 = FA0) (hfa1 : fa1 < nq) (efa1 : qs fa1 = FA1) (hk0 : PA0.kind = 1) (hk1 : PA1.kind = 2) (hk2 : PA2.kind = 1) (hk3 : PA3.kind = 2) (hk4 : PA4.kind = 1) (hwh : FA0.pitch * FA1.pitch = wh) (gwh : 0 ≤ wh ∧ wh ≤ 100000000) (gw1 : 0 ≤ FA0.pitch ∧ FA0.pitch ≤ 10000) (hB0 : Below w.heap.size w v1) (hbw : w.heap.size ≤ bn) (hbn : bn < v1.heap.size) (hJb : ∀ i W W', J i W → Below W.heap.size W W' → J i W') (hJ0 : J 0 v1) (hqv0 : wh / FA0.pitch = qv0) (gqv0 : 0 ≤ qv0 ∧ qv0 ≤ 100000000) (gqd0 : 0 ≤ qv0 * FA0.draw ∧ qv0 * FA0.draw ≤ 200000000) (gpi0 : 1000 ≤ FA0.pitch ∧ FA0.pitch ≤ 10000) (hqv1 : wh / FA1.pitch = qv1) (gqv1 : 0 ≤ qv1 ∧ qv1 ≤ 100000000) (gqd1 : 0 ≤ qv1 * FA1.draw ∧ qv1 * FA1.draw ≤ 200000000) (gpi1 : 1000 ≤ FA1.pitch ∧ FA1.pitch ≤ 10000) (hY0 : ∀ W, J 0 W → YieldAt Fence.wide 7 Try.prog l #[.int .i64 (pa0 : Int), .int .i64 wh] W fun e W' => e = .returned (.bool true) ∧ J 1 W' ∧ KeepX bn W W') (hY1 : ∀ W, J 1 W → YieldAt Fence.wide 7 Try.prog l #[.int .i64 (pa1 : Int), .int .i64 (qv0 * FA0.draw)] W fun e W' => e = .returned (.bool true) ∧ J 2 W' ∧ KeepX bn W W') (hY2 : ∀ W, J 2 W → YieldAt Fence.wide 7 Try.prog l #[.int .i64 (pa2 : Int), .int .i64 wh] W fun e W' => e = .returned (.bool true) ∧ J 3 W' ∧ KeepX bn W W') (hY3 : ∀ W, J 3 W → YieldAt Fence.wide 7 Try.prog l #[.int .i64 (pa3 : Int), .int .i64 (qv1 * FA1.draw)] W fun e W' => e = .returned (.bool true) ∧ J 4 W' ∧ KeepX bn W W') (hY4 : ∀ W, J 4 W → YieldAt Fence.wide 7 Try.prog l #[.int .i64 (pa4 : Int), .int .i64 wh] W fun e W' => e = .returned (.bool true) ∧ J 5 W' ∧ KeepX bn W W') :
  Calls Try.prog 104 #[.agg #[.slice (some ⟨tx, ux, none⟩) 5 cx, .slice (some ⟨tf, uf, none⟩) 2 cf, .slice (some ⟨bp, oP, none⟩) np cp, .slice (some ⟨bq, oq, none⟩) nq cq, .int .i64 wh], .func (.yield l) #[] #[]] v1 (fun e w' => (∃ v, e = .returned v) ∧ J 5 w') := by
 refine calls_fr Try.func104 Try.ntmps104 rfl rfl fun g hg => ?_
 have k0 : g 0 = .agg #[.slice (some ⟨tx, ux, none⟩) 5 cx, .slice (some ⟨tf, uf, none⟩) 2 cf, .slice (some ⟨bp, oP, none⟩) np cp, .slice (some ⟨bq, oq, none⟩) nq cq, .int .i64 wh] := hg 0
 have k1 : g 1 = .func (.yield l) #[] #[] := hg 1
 clear hg
 have fB0 : Below w.heap.size w v1 := hB0
 refine rw_ 1 [(2, 0)] [[]] (rel [bx 0 #[.slice (some ⟨tx, ux, none⟩) 5 cx, .slice (some ⟨tf, uf, none⟩) 2 cf, .slice (some ⟨bp, oP, none⟩) np cp, .slice (some ⟨bq, oq, none⟩) nq cq, .int .i64 wh] 95])
  ⟨fun f s W hW c j k m a => opb rfl rfl (by simp [go_sem, a.e 0 k0]), trivial⟩ ?_
 intro f1 s1 W1 hB1 g1 hg1 z1
 have q36' := (hJb 0 _ _ hJ0 hB1.below)
 obtain ⟨r1_0, br1_0⟩ := hB1.is 0
 have lr1_0 := hB1.lr 0 br1_0
 have k1_2 := kt hg1 2 r1_0
 refine rw_ 5 [(8, 0), (9, 1), (10, 2), (11, 3), (12, 4)] [[], [0], [1], [2], []] (rel [is (.pointer (some ⟨(s1 0), 0, none⟩)), is (.pointer (some ⟨(s1 0), 0, none⟩)), is (.slice (some ⟨tx, ux, none⟩) 5 cx), iI 5, iI 0])
  ⟨fun f s W hW c j k m a => opv rfl rfl (by simp [go_sem, a.e 2 k1_2]) rfl,
  fun f s W hW c j k m a => opv rfl rfl (by simp [go_sem, a.e 8 (c 0 rfl)]) rfl,
  fun f s W hW c j k m a => opv rfl rfl (by simp [go_sem, a.e 9 (c 1 rfl), cb br1_0 hW 0]) rfl,
  fun f s W hW c j k m a => opv rfl rfl (by simp [go_sem, a.e 10 (c 2 rfl)]) rfl,
  fun f s W hW c j k m a => opz, trivial⟩ ?_
 intro f2 s2 W2 hB2 g2 hg2 z2
 have q37' := (hJb 0 _ _ q36' hB2.below)
 have k2_11 := kt hg2 11 (hB2.is 3)
 have k2_12 := kt hg2 12 (hB2.is 4)
 refine wp_block ?_
 refine wp_loop_rounds 6 ?_
 rw [rounds_succ]
 refine rw_ 1 [(13, 0)] [[]] (rel [iB true])
  ⟨fun f s W hW c j k m a => opv rfl rfl (by simp [go_sem, a.e 12 k2_12, a.e 11 k2_11]) rfl, trivial⟩ ?_
 intro f3 s3 W3 hB3 g3 hg3 z3
 have fB3 := hB3.f (hB2.f (hB1.f fB0))
 have q38' := (hJb 0 _ _ q37' hB3.below)
 have k3_10 := kt hg3 10 (kt hg2 10 (hB2.is 2))
 have k3_12 := kt hg3 12 k2_12
 have k3_13 := kt hg3 13 (hB3.is 0)
 refine wp_seq_k fun K4 hK4 => ?_
 refine wp_cond_true ((fr_eval rfl).trans k3_13) ?_
 refine wp_skip ?_
 refine hK4 _ _ ?_
 refine wp_seq_k fun K6 hK6 => ?_
 refine wp_block ?_
 refine rw_ 5 [(14, 0), (15, 1), (16, 2), (4, 3), (5, 4)] [[], [], [1], [0], [2]] (rel [iI 0, is (.pointer (some ⟨tx, ux, none⟩)), iI ((pa0 : Int)), iI 0, iI ((pa0 : Int))])
  ⟨fun f s W hW c j k m a => opm (a.v 12 k3_12),
  fun f s W hW c j k m a => opv rfl rfl (by simp [go_sem, a.e 10 k3_10, a.e 12 k3_12]) rfl,
  fun f s W hW c j k m a => by have p := bwt fB3 hW; have cu : W.cell? ⟨tx, ux, none⟩ = some (.int .i64 (pa0 : Int)) := ii_cell (hX.below p (Nat.le_refl _)) 0 (by simp); exact opv rfl rfl (by simp [go_sem, a.e 15 (c 1 rfl), cu]) rfl,
  fun f s W hW c j k m a => opm (a.v 14 (c 0 rfl)),
  fun f s W hW c j k m a => opm (a.v 16 (c 2 rfl)), trivial⟩ ?_
 intro f4 s4 W4 hB4 g4 hg4 z4
 have b4_0 := hB4.b (hB3.b (hB2.b br1_0))
 have q39' := (hJb 0 _ _ q38' hB4.below)
 have k4_2 := kt hg4 2 (kt hg3 2 (kt hg2 2 k1_2))
 refine rw_ 3 [(17, 0), (18, 1), (6, 2)] [[], [0], [1]] (rel [is (.pointer (some ⟨(s1 0), 4, none⟩)), iI wh, iI wh])
  ⟨fun f s W hW c j k m a => opv rfl rfl (by simp [go_sem, a.e 2 k4_2]) rfl,
  fun f s W hW c j k m a => opv rfl rfl (by simp [go_sem, a.e 17 (c 0 rfl), cb b4_0 hW 4]) rfl,
  fun f s W hW c j k m a => opm (a.v 18 (c 1 rfl)), trivial⟩ ?_
 intro f5 s5 W5 hB5 g5 hg5 z5
 have q40' := (hJb 0 _ _ q39' hB5.below)
 have k5_4 := kt hg5 4 (kt hg4 4 (hB4.is 3))
 refine wp_seq_k fun K9 hK9 => ?_
 refine rw_ 3 [(19, 0), (20, 1), (21, 2)] [[], [0], [1]] (rel [iI 0, iI 0, iB false])
  ⟨fun f s W hW c j k m a => opm (a.v 4 k5_4),
  fun f s W hW c j k m a => by have qw_ := IntWalk.i64_in (0) (by decide); exact opv rfl rfl (by simp [go_sem, a.e 19 (c 0 rfl), qw_]) rfl,
  fun f s W hW c j k m a => opv rfl rfl (by simp [go_sem, a.e 20 (c 1 rfl)]) rfl, trivial⟩ ?_
 intro f6 s6 W6 hB6 g6 hg6 z6
 have fB6 := hB6.f (hB5.f (hB4.f fB3))
 have b6_0 := hB6.b (hB5.b b4_0)
 have q41' := (hJb 0 _ _ q40' hB6.below)
 have k6_1 := kt hg6 1 (kt hg5 1 (kt hg4 1 (kt hg3 1 (kt hg2 1 (kt hg1 1 k1)))))
 have k6_21 := kt hg6 21 (hB6.is 2)
 refine wp_cond_false ((fr_eval rfl).trans k6_21) ?_
 refine wp_skip ?_
 refine hK9 _ _ ?_
 refine wp_seq_k fun K12 hK12 => ?_
 refine (wpIn_wide (n := 8)).1 (wpIn_region ?_)
 show wpOpsIn _ _ _ _ _ [0, 1, 2, 3, 4] _ _
 refine in_value (o := _) rfl rfl rfl (v := .func (.yield l) #[] #[]) (by simp [go_sem, frv 47 k6_1]) ?_
 generalize hg7 : upd g6 41 (.func (.yield l) #[] #[]) = g7
 have k7_5 := ku hg7 5 (kt hg6 5 (kt hg5 5 (kt hg4 5 (hB4.is 4))))
 refine in_value (o := _) rfl rfl rfl (v := .int .i64 ((pa0 : Int))) (by simp [go_sem, frv 47 k7_5]) ?_
 generalize hg8 : upd g7 42 (.int .i64 ((pa0 : Int))) = g8
 have k8_6 := ku hg8 6 (ku hg7 6 (kt hg6 6 (kt hg5 6 (hB5.is 2))))
 refine in_value (o := _) rfl rfl rfl (v := .int .i64 wh) (by simp [go_sem, frv 47 k8_6]) ?_
 generalize hg9 : upd g8 43 (.int .i64 wh) = g9
 have k9_41 := ku hg9 41 (ku hg8 41 (kt hg7 41 (upd_same _ _ _)))
 have k9_42 := ku hg9 42 (kt hg8 42 (upd_same _ _ _))
 have k9_43 := kt hg9 43 (upd_same _ _ _)
 refine in_round (o := _) (d := 44) rfl rfl rfl (l := l) (args := #[.int .i64 ((pa0 : Int)), .int .i64 wh]) (by simp [go_sem, frv 47 k9_41, frv 47 k9_42, frv 47 k9_43]) (hY0 W6 q41') ?_ (fun _ h => nomatch h.1) (fun _ _ h => nomatch h.1)
 rintro v_ W10 ⟨rv10, jj10, kx10⟩
 obtain rfl := Ending.returned.inj rv10
 have fB10 := Below.trans fB6 (kx10.below hbw (fB6).size)
 have z10 := kx10.size
 have b10_0 := kx10.block _ _ (by omega) b6_0
 generalize hg10 : upd g9 44 (.bool true) = g10
 have k10_44 := kt hg10 44 (upd_same _ _ _)
 refine in_value (o := _) rfl rfl rfl (v := .bool false) (by simp [go_sem, frv 47 k10_44]) ?_
 generalize hg11 : upd g10 45 (.bool false) = g11
 have k11_12 := ku hg11 12 (ku hg10 12 (ku hg9 12 (ku hg8 12 (ku hg7 12 (kt hg6 12 (kt hg5 12 (kt hg4 12 k3_12)))))))
 have k11_45 := kt hg11 45 (upd_same _ _ _)
 refine hK12 _ _ ?_
 refine wp_cond_false ((fr_eval rfl).trans k11_45) ?_
 refine wp_skip ?_
 refine ibn ?_
 refine hK6 _ _ ?_
 refine ry 2 [(46, 0), (12, 1)] [[], [0]] (rel [iI 1, iI 1])
  ⟨fun f s W hW c j k m a => opv rfl rfl (by simp [go_sem, a.e 12 ((k 1 12 rfl rfl).trans k11_12), IntWalk.i64_in (1) (by omega)]) rfl,
  fun f s W hW c j k m a => opm (a.v 46 (c 0 rfl)), trivial⟩ ?_
 intro f12 s12 W12 hB12 g12 hg12 z12
 have q42' := (hJb 1 _ _ jj10 hB12.below)
 refine wpe ?_
 have k12_11 := kt hg12 11 (ku hg11 11 (ku hg10 11 (ku hg9 11 (ku hg8 11 (ku hg7 11 (kt hg6 11 (kt hg5 11 (kt hg4 11 (kt hg3 11 k2_11)))))))))
 have k12_12 := kt hg12 12 (hB12.is 1)
 refine then_normal ?_
 rw [rounds_succ]
 refine rw_ 1 [(13, 0)] [[]] (rel [iB true])
  ⟨fun f s W hW c j k m a => opv rfl rfl (by simp [go_sem, a.e 12 k12_12, a.e 11 k12_11]) rfl, trivial⟩ ?_
 intro f13 s13 W13 hB13 g13 hg13 z13
 have fB13 := hB13.f (hB12.f fB10)
 have q43' := (hJb 1 _ _ q42' hB13.below)
 have k13_10 := kt hg13 10 (kt hg12 10 (ku hg11 10 (ku hg10 10 (ku hg9 10 (ku hg8 10 (ku hg7 10 (kt hg6 10 (kt hg5 10 (kt hg4 10 k3_10)))))))))
 have k13_12 := kt hg13 12 k12_12
 have k13_13 := kt hg13 13 (hB13.is 0)
 refine wp_seq_k fun K15 hK15 => ?_
 refine wp_cond_true ((fr_eval rfl).trans k13_13) ?_
 refine wp_skip ?_
 refine hK15 _ _ ?_
 refine wp_seq_k fun K17 hK17 => ?_
 refine wp_block ?_
 refine rw_ 5 [(14, 0), (15, 1), (16, 2), (4, 3), (5, 4)] [[], [], [1], [0], [2]] (rel [iI 1, is (.pointer (some ⟨tx, ux + 1, none⟩)), iI ((pa1 : Int)), iI 1, iI ((pa1 : Int))])
  ⟨fun f s W hW c j k m a => opm (a.v 12 k13_12),
  fun f s W hW c j k m a => opv rfl rfl (by simp [go_sem, a.e 10 k13_10, a.e 12 k13_12]) rfl,
  fun f s W hW c j k m a => by have p := bwt fB13 hW; have cu : W.cell? ⟨tx, ux + 1, none⟩ = some (.int .i64 (pa1 : Int)) := ii_cell (hX.below p (Nat.le_refl _)) 1 (by simp); exact opv rfl rfl (by simp [go_sem, a.e 15 (c 1 rfl), cu]) rfl,
  fun f s W hW c j k m a => opm (a.v 14 (c 0 rfl)),
  fun f s W hW c j k m a => opm (a.v 16 (c 2 rfl)), trivial⟩ ?_
 intro f14 s14 W14 hB14 g14 hg14 z14
 have b14_0 := hB14.b (hB13.b (hB12.b b10_0))
 have q44' := (hJb 1 _ _ q43' hB14.below)
 have k14_2 := kt hg14 2 (kt hg13 2 (kt hg12 2 (ku hg11 2 (ku hg10 2 (ku hg9 2 (ku hg8 2 (ku hg7 2 (kt hg6 2 (kt hg5 2 k4_2)))))))))
 refine rw_ 3 [(17, 0), (18, 1), (6, 2)] [[], [0], [1]] (rel [is (.pointer (some ⟨(s1 0), 4, none⟩)), iI wh, iI wh])
  ⟨fun f s W hW c j k m a => opv rfl rfl (by simp [go_sem, a.e 2 k14_2]) rfl,
  fun f s W hW c j k m a => opv rfl rfl (by simp [go_sem, a.e 17 (c 0 rfl), cb b14_0 hW 4]) rfl,
  fun f s W hW c j k m a => opm (a.v 18 (c 1 rfl)), trivial⟩ ?_
 intro f15 s15 W15 hB15 g15 hg15 z15
 have q45' := (hJb 1 _ _ q44' hB15.below)
 have k15_4 := kt hg15 4 (kt hg14 4 (hB14.is 3))
 refine wp_seq_k fun K20 hK20 => ?_
 refine rw_ 3 [(19, 0), (20, 1), (21, 2)] [[], [0], [1]] (rel [iI 1, iI 1, iB true])
  ⟨fun f s W hW c j k m a => opm (a.v 4 k15_4),
  fun f s W hW c j k m a => by have qw_ := IntWalk.i64_in (1) (by decide); exact opv rfl rfl (by simp [go_sem, a.e 19 (c 0 rfl), qw_]) rfl,
  fun f s W hW c j k m a => opv rfl rfl (by simp [go_sem, a.e 20 (c 1 rfl)]) rfl, trivial⟩ ?_
 intro f16 s16 W16 hB16 g16 hg16 z16
 have fB16 := hB16.f (hB15.f (hB14.f fB13))
 have b16_0 := hB16.b (hB15.b b14_0)
 have q46' := (hJb 1 _ _ q45' hB16.below)
 have k16_2 := kt hg16 2 (kt hg15 2 k14_2)
 have k16_4 := kt hg16 4 k15_4
 have k16_21 := kt hg16 21 (hB16.is 2)
 refine wp_cond_true ((fr_eval rfl).trans k16_21) ?_
 refine wp_seq_k fun K23 hK23 => ?_
 refine region_doL (LeT (W16.heap.size) 105 (justC (#[.int .i64 FA0.pitch, .int .i64 FA0.draw, .int .i64 FA0.h1, .int .i64 FA0.h2]))) LeT.refl (LeT.drew justC_b) LeT.trans (fun _ _ h => h.size) 14 [(22, 0), (23, 1), (24, 2), (25, 3), (26, 4), (27, 5), (28, 6), (29, 7), (30, 8), (31, 9), (32, 10), (33, 11), (7, 12)] [[], [0], [0, 1], [], [3], [3, 4], [], [6], [3, 4, 5, 6, 7], [3, 4, 5, 6, 7, 8], [0, 1, 2, 3, 4, 5, 6, 7, 8, 9], [0, 1, 2, 3, 4, 5, 6, 7, 8, 9, 10], [], [0, 1, 2, 3, 4, 5, 6, 7, 8, 9, 10, 11, 12]] (rel [is (.pointer (some ⟨(s1 0), 2, none⟩)),
   is (.pointer (some ⟨(s1 0), 3, none⟩)),
   is (.slice (some ⟨bq, oq, none⟩) nq cq),
   is (.pointer (some ⟨(s1 0), 0, none⟩)),
   is (.pointer (some ⟨(s1 0), 1, none⟩)),
   is (.slice (some ⟨tf, uf, none⟩) 2 cf),
   is (.int .i64 1),
   is (.int .i64 0),
   is (.pointer (some ⟨tf, uf, none⟩)),
   is (.int .i64 ((fa0 : Int))),
   is (.pointer (some ⟨bq, oq + fa0 * 4, none⟩)),
   is (.agg #[.int .i64 FA0.pitch, .int .i64 FA0.draw, .int .i64 FA0.h1, .int .i64 FA0.h2]),
   boxT (W16.heap.size) 105 4 12,
   stoT (W16.heap.size) 105 (justC (#[.int .i64 FA0.pitch, .int .i64 FA0.draw, .int .i64 FA0.h1, .int .i64 FA0.h2])) 12]) (by kernel_rfl) (by kernel_rfl) (by kernel_rfl) (by kernel_rfl)
  ⟨is_kl, is_kl, is_kl, is_kl, is_kl, is_kl, is_kl, is_kl, is_kl, is_kl, is_kl, is_kl, boxT_k, stoT_k (by simp), trivial⟩
  ⟨fun f s W hT c j k m a => by have hW := LeT.below hT (Nat.le_refl _); exact OpDo.l (LeT.of_below justC_b) (opv rfl rfl (by simp [go_sem, a.e 2 k16_2]) rfl),
  fun f s W hT c j k m a => by have hW := LeT.below hT (Nat.le_refl _); exact OpDo.l (LeT.of_below justC_b) (opv rfl rfl (by simp [go_sem, a.e 22 (c 0 rfl)]) rfl),
  fun f s W hT c j k m a => by have hW := LeT.below hT (Nat.le_refl _); exact OpDo.l (LeT.of_below justC_b) (opv rfl rfl (by simp [go_sem, a.e 23 (c 1 rfl), cb b16_0 hW 3]) rfl),
  fun f s W hT c j k m a => by have hW := LeT.below hT (Nat.le_refl _); exact OpDo.l (LeT.of_below justC_b) (opv rfl rfl (by simp [go_sem, a.e 2 k16_2]) rfl),
  fun f s W hT c j k m a => by have hW := LeT.below hT (Nat.le_refl _); exact OpDo.l (LeT.of_below justC_b) (opv rfl rfl (by simp [go_sem, a.e 25 (c 3 rfl)]) rfl),
  fun f s W hT c j k m a => by have hW := LeT.below hT (Nat.le_refl _); exact OpDo.l (LeT.of_below justC_b) (opv rfl rfl (by simp [go_sem, a.e 26 (c 4 rfl), cb b16_0 hW 1]) rfl),
  fun f s W hT c j k m a => by have hW := LeT.below hT (Nat.le_refl _); exact OpDo.l (LeT.of_below justC_b) (opv rfl rfl (by simp [go_sem, a.e 4 k16_4]) rfl),
  fun f s W hT c j k m a => by have hW := LeT.below hT (Nat.le_refl _); exact OpDo.l (LeT.of_below justC_b) (by have qw_ := IntWalk.i64_in (0) (by decide); exact opv rfl rfl (by simp [go_sem, a.e 28 (c 6 rfl), qw_]) rfl),
  fun f s W hT c j k m a => by have hW := LeT.below hT (Nat.le_refl _); exact OpDo.l (LeT.of_below justC_b) (opv rfl rfl (by simp [go_sem, a.e 27 (c 5 rfl), a.e 29 (c 7 rfl)]) rfl),
  fun f s W hT c j k m a => by have hW := LeT.below hT (Nat.le_refl _); exact OpDo.l (LeT.of_below justC_b) (by have p := bwt fB16 hW; have cu : W.cell? ⟨tf, uf, none⟩ = some (.int .i64 (fa0 : Int)) := ii_cell (hF.below p (Nat.le_refl _)) 0 (by simp); exact opv rfl rfl (by simp [go_sem, a.e 30 (c 8 rfl), cu]) rfl),
  fun f s W hT c j k m a => by have hW := LeT.below hT (Nat.le_refl _); exact OpDo.l (LeT.of_below justC_b) (by have li_ := Nat.not_le.2 hfa0; have lz_ : (fa0 : Int) < (nq : Int) := (by omega); exact opv rfl rfl (by simp [go_sem, a.e 24 (c 2 rfl), a.e 31 (c 9 rfl), li_, hfa0, lz_]) rfl),
  fun f s W hT c j k m a => by have hW := LeT.below hT (Nat.le_refl _); exact OpDo.l (LeT.of_below justC_b) (by have p := bwt fB16 hW; have E_ := (hQ.below p).2 fa0 hfa0; rw [efa0] at E_; obtain ⟨u0_, u1_, u2_, u3_⟩ := E_; have v0_ : W.cell? ⟨bq, oq + fa0 * 4, none⟩ = some (.int .i64 FA0.pitch) := u0_; have v1_ : W.cell? ⟨bq, oq + fa0 * 4 + 1, none⟩ = some (.int .i64 FA0.draw) := u1_; have v2_ : W.cell? ⟨bq, oq + fa0 * 4 + 2, none⟩ = some (.int .i64 FA0.h1) := u2_; have v3_ : W.cell? ⟨bq, oq + fa0 * 4 + 3, none⟩ = some (.int .i64 FA0.h2) := u3_; exact opv rfl rfl (by simp [go_sem, a.e 32 (c 10 rfl), v0_, v1_, v2_, v3_]) rfl),
  fun f s W hT c j k m a => opT (cs := #[.int .i64 0, .int .i64 0, .int .i64 0, .int .i64 0]) justC_b (hT.size) rfl rfl (by simp [go_sem]) rfl,
  fun f s W hT c j k m a => by exact stoT_do (#[.int .i64 FA0.pitch, .int .i64 FA0.draw, .int .i64 FA0.h1, .int .i64 FA0.h2]) rfl (by decide) (c 12 rfl) (a.v 7 (c 12 rfl).1) (a.v 33 (c 11 rfl)) rfl rfl (by rfl) (by rfl) ((rfl : justC (#[.int .i64 FA0.pitch, .int .i64 FA0.draw, .int .i64 FA0.h1, .int .i64 FA0.h2]) (#[.int .i64 FA0.pitch, .int .i64 FA0.draw, .int .i64 FA0.h1, .int .i64 FA0.h2]) W)) (fun _ _ _ h => h) (fun _ _ _ _ _ h => h), trivial⟩ ?_
 intro f17 s17 W17 hB17
 have hb17 := LeT.below hB17.le (Nat.le_refl _)
 have fB17 := bwt fB16 hb17
 have z17 : W16.heap.size ≤ W17.heap.size := hb17.size
 have b17_0 := bwb b16_0 hb17
 have q47' := (hJb 1 _ _ q46' hb17)
 obtain ⟨r17_12, lb17, -⟩ := hB17.is 12
 obtain ⟨-, cs17, bs17, hG17⟩ := hB17.is 13
 have hG17' : cs17 = #[.int .i64 FA0.pitch, .int .i64 FA0.draw, .int .i64 FA0.h1, .int .i64 FA0.h2] := hG17
 subst hG17'
 have lr17_12 : W16.heap.size ≤ s17 12 ∧ s17 12 < W17.heap.size := ⟨lb17, ltb bs17⟩
 generalize hg17 : ov [(22, 0), (23, 1), (24, 2), (25, 3), (26, 4), (27, 5), (28, 6), (29, 7), (30, 8), (31, 9), (32, 10), (33, 11), (7, 12)] f17 g16 = g17
 have k17_6 := kt hg17 6 (kt hg16 6 (kt hg15 6 (hB15.is 2)))
 have k17_7 := kt hg17 7 r17_12
 refine wpe ?_
 refine hK23 _ _ ?_
 refine ry 8 [(34, 0), (35, 1), (36, 2), (37, 3), (38, 4), (39, 5), (40, 6), (6, 7)] [[], [], [1], [0, 2], [], [4], [3, 5], [0, 6]] (rel [iI wh, is (.pointer (some ⟨(s17 12), 0, none⟩)), iI FA0.pitch, iI qv0, is (.pointer (some ⟨(s17 12), 1, none⟩)), iI FA0.draw, iI (qv0 * FA0.draw), iI (qv0 * FA0.draw)])
  ⟨fun f s W hW c j k m a => opm (a.v 6 ((k 7 6 rfl rfl).trans k17_6)),
  fun f s W hW c j k m a => opv rfl rfl (by simp [go_sem, a.e 7 k17_7]) rfl,
  fun f s W hW c j k m a => opv rfl rfl (by simp [go_sem, a.e 35 (c 1 rfl), cb bs17 hW 0]) rfl,
  fun f s W hW c j k m a => by have qu_ : (wh).tdiv FA0.pitch = qv0 := (Int.tdiv_eq_ediv_of_nonneg (by omega)).trans hqv0; have qw_ := IntWalk.i64_in (qv0) (by omega); have qz_ : ¬ FA0.pitch = 0 := (by omega); exact opv rfl rfl (by simp [go_sem, a.e 34 (c 0 rfl), a.e 36 (c 2 rfl), qu_, qw_, qz_]) rfl,
  fun f s W hW c j k m a => opv rfl rfl (by simp [go_sem, a.e 7 k17_7]) rfl,
  fun f s W hW c j k m a => opv rfl rfl (by simp [go_sem, a.e 38 (c 4 rfl), cb bs17 hW 1]) rfl,
  fun f s W hW c j k m a => opv rfl rfl (by simp [go_sem, a.e 37 (c 3 rfl), a.e 39 (c 5 rfl), IntWalk.i64_in (qv0 * FA0.draw) (by omega)]) rfl,
  fun f s W hW c j k m a => opm (a.v 40 (c 6 rfl)), trivial⟩ ?_
 intro f18 s18 W18 hB18 g18 hg18 z18
 have fB18 := hB18.f fB17
 have b18_0 := hB18.b b17_0
 have q48' := (hJb 1 _ _ q47' hB18.below)
 refine hK20 _ _ ?_
 have k18_1 := kt hg18 1 (kt hg17 1 (kt hg16 1 (kt hg15 1 (kt hg14 1 (kt hg13 1 (kt hg12 1 (ku hg11 1 (ku hg10 1 (ku hg9 1 (ku hg8 1 (ku hg7 1 k6_1)))))))))))
 refine wp_seq_k fun K24 hK24 => ?_
 refine (wpIn_wide (n := 8)).1 (wpIn_region ?_)
 show wpOpsIn _ _ _ _ _ [0, 1, 2, 3, 4] _ _
 refine in_value (o := _) rfl rfl rfl (v := .func (.yield l) #[] #[]) (by simp [go_sem, frv 47 k18_1]) ?_
 generalize hg19 : upd g18 41 (.func (.yield l) #[] #[]) = g19
 have k19_5 := ku hg19 5 (kt hg18 5 (kt hg17 5 (kt hg16 5 (kt hg15 5 (kt hg14 5 (hB14.is 4))))))
 refine in_value (o := _) rfl rfl rfl (v := .int .i64 ((pa1 : Int))) (by simp [go_sem, frv 47 k19_5]) ?_
 generalize hg20 : upd g19 42 (.int .i64 ((pa1 : Int))) = g20
 have k20_6 := ku hg20 6 (ku hg19 6 (kt hg18 6 (hB18.is 7)))
 refine in_value (o := _) rfl rfl rfl (v := .int .i64 (qv0 * FA0.draw)) (by simp [go_sem, frv 47 k20_6]) ?_
 generalize hg21 : upd g20 43 (.int .i64 (qv0 * FA0.draw)) = g21
 have k21_41 := ku hg21 41 (ku hg20 41 (kt hg19 41 (upd_same _ _ _)))
 have k21_42 := ku hg21 42 (kt hg20 42 (upd_same _ _ _))
 have k21_43 := kt hg21 43 (upd_same _ _ _)
 refine in_round (o := _) (d := 44) rfl rfl rfl (l := l) (args := #[.int .i64 ((pa1 : Int)), .int .i64 (qv0 * FA0.draw)]) (by simp [go_sem, frv 47 k21_41, frv 47 k21_42, frv 47 k21_43]) (hY1 W18 q48') ?_ (fun _ h => nomatch h.1) (fun _ _ h => nomatch h.1)
 rintro v_ W22 ⟨rv22, jj22, kx22⟩
 obtain rfl := Ending.returned.inj rv22
 have fB22 := Below.trans fB18 (kx22.below hbw (fB18).size)
 have z22 := kx22.size
 have b22_0 := kx22.block _ _ (by omega) b18_0
 generalize hg22 : upd g21 44 (.bool true) = g22
 have k22_44 := kt hg22 44 (upd_same _ _ _)
 refine in_value (o := _) rfl rfl rfl (v := .bool false) (by simp [go_sem, frv 47 k22_44]) ?_
 generalize hg23 : upd g22 45 (.bool false) = g23
 have k23_12 := ku hg23 12 (ku hg22 12 (ku hg21 12 (ku hg20 12 (ku hg19 12 (kt hg18 12 (kt hg17 12 (kt hg16 12 (kt hg15 12 (kt hg14 12 k13_12)))))))))
 have k23_45 := kt hg23 45 (upd_same _ _ _)
 refine hK24 _ _ ?_
 refine wp_cond_false ((fr_eval rfl).trans k23_45) ?_
 refine wp_skip ?_
 refine ibn ?_
 refine hK17 _ _ ?_
 refine ry 2 [(46, 0), (12, 1)] [[], [0]] (rel [iI 2, iI 2])
  ⟨fun f s W hW c j k m a => opv rfl rfl (by simp [go_sem, a.e 12 ((k 1 12 rfl rfl).trans k23_12), IntWalk.i64_in (2) (by omega)]) rfl,
  fun f s W hW c j k m a => opm (a.v 46 (c 0 rfl)), trivial⟩ ?_
 intro f24 s24 W24 hB24 g24 hg24 z24
 have q49' := (hJb 2 _ _ jj22 hB24.below)
 refine wpe ?_
 have k24_11 := kt hg24 11 (ku hg23 11 (ku hg22 11 (ku hg21 11 (ku hg20 11 (ku hg19 11 (kt hg18 11 (kt hg17 11 (kt hg16 11 (kt hg15 11 (kt hg14 11 (kt hg13 11 k12_11)))))))))))
 have k24_12 := kt hg24 12 (hB24.is 1)
 refine then_normal ?_
 rw [rounds_succ]
 refine rw_ 1 [(13, 0)] [[]] (rel [iB true])
  ⟨fun f s W hW c j k m a => opv rfl rfl (by simp [go_sem, a.e 12 k24_12, a.e 11 k24_11]) rfl, trivial⟩ ?_
 intro f25 s25 W25 hB25 g25 hg25 z25
 have fB25 := hB25.f (hB24.f fB22)
 have q50' := (hJb 2 _ _ q49' hB25.below)
 have k25_10 := kt hg25 10 (kt hg24 10 (ku hg23 10 (ku hg22 10 (ku hg21 10 (ku hg20 10 (ku hg19 10 (kt hg18 10 (kt hg17 10 (kt hg16 10 (kt hg15 10 (kt hg14 10 k13_10)))))))))))
 have k25_12 := kt hg25 12 k24_12
 have k25_13 := kt hg25 13 (hB25.is 0)
 refine wp_seq_k fun K27 hK27 => ?_
 refine wp_cond_true ((fr_eval rfl).trans k25_13) ?_
 refine wp_skip ?_
 refine hK27 _ _ ?_
 refine wp_seq_k fun K29 hK29 => ?_
 refine wp_block ?_
 refine rw_ 5 [(14, 0), (15, 1), (16, 2), (4, 3), (5, 4)] [[], [], [1], [0], [2]] (rel [iI 2, is (.pointer (some ⟨tx, ux + 2, none⟩)), iI ((pa2 : Int)), iI 2, iI ((pa2 : Int))])
  ⟨fun f s W hW c j k m a => opm (a.v 12 k25_12),
  fun f s W hW c j k m a => opv rfl rfl (by simp [go_sem, a.e 10 k25_10, a.e 12 k25_12]) rfl,
  fun f s W hW c j k m a => by have p := bwt fB25 hW; have cu : W.cell? ⟨tx, ux + 2, none⟩ = some (.int .i64 (pa2 : Int)) := ii_cell (hX.below p (Nat.le_refl _)) 2 (by simp); exact opv rfl rfl (by simp [go_sem, a.e 15 (c 1 rfl), cu]) rfl,
  fun f s W hW c j k m a => opm (a.v 14 (c 0 rfl)),
  fun f s W hW c j k m a => opm (a.v 16 (c 2 rfl)), trivial⟩ ?_
 intro f26 s26 W26 hB26 g26 hg26 z26
 have b26_0 := hB26.b (hB25.b (hB24.b b22_0))
 have q51' := (hJb 2 _ _ q50' hB26.below)
 have k26_2 := kt hg26 2 (kt hg25 2 (kt hg24 2 (ku hg23 2 (ku hg22 2 (ku hg21 2 (ku hg20 2 (ku hg19 2 (kt hg18 2 (kt hg17 2 k16_2)))))))))
 refine rw_ 3 [(17, 0), (18, 1), (6, 2)] [[], [0], [1]] (rel [is (.pointer (some ⟨(s1 0), 4, none⟩)), iI wh, iI wh])
  ⟨fun f s W hW c j k m a => opv rfl rfl (by simp [go_sem, a.e 2 k26_2]) rfl,
  fun f s W hW c j k m a => opv rfl rfl (by simp [go_sem, a.e 17 (c 0 rfl), cb b26_0 hW 4]) rfl,
  fun f s W hW c j k m a => opm (a.v 18 (c 1 rfl)), trivial⟩ ?_
 intro f27 s27 W27 hB27 g27 hg27 z27
 have q52' := (hJb 2 _ _ q51' hB27.below)
 have k27_4 := kt hg27 4 (kt hg26 4 (hB26.is 3))
 refine wp_seq_k fun K32 hK32 => ?_
 refine rw_ 3 [(19, 0), (20, 1), (21, 2)] [[], [0], [1]] (rel [iI 2, iI 0, iB false])
  ⟨fun f s W hW c j k m a => opm (a.v 4 k27_4),
  fun f s W hW c j k m a => by have qw_ := IntWalk.i64_in (0) (by decide); exact opv rfl rfl (by simp [go_sem, a.e 19 (c 0 rfl), qw_]) rfl,
  fun f s W hW c j k m a => opv rfl rfl (by simp [go_sem, a.e 20 (c 1 rfl)]) rfl, trivial⟩ ?_
 intro f28 s28 W28 hB28 g28 hg28 z28
 have fB28 := hB28.f (hB27.f (hB26.f fB25))
 have b28_0 := hB28.b (hB27.b b26_0)
 have q53' := (hJb 2 _ _ q52' hB28.below)
 have k28_1 := kt hg28 1 (kt hg27 1 (kt hg26 1 (kt hg25 1 (kt hg24 1 (ku hg23 1 (ku hg22 1 (ku hg21 1 (ku hg20 1 (ku hg19 1 k18_1)))))))))
 have k28_21 := kt hg28 21 (hB28.is 2)
 refine wp_cond_false ((fr_eval rfl).trans k28_21) ?_
 refine wp_skip ?_
 refine hK32 _ _ ?_
 refine wp_seq_k fun K35 hK35 => ?_
 refine (wpIn_wide (n := 8)).1 (wpIn_region ?_)
 show wpOpsIn _ _ _ _ _ [0, 1, 2, 3, 4] _ _
 refine in_value (o := _) rfl rfl rfl (v := .func (.yield l) #[] #[]) (by simp [go_sem, frv 47 k28_1]) ?_
 generalize hg29 : upd g28 41 (.func (.yield l) #[] #[]) = g29
 have k29_5 := ku hg29 5 (kt hg28 5 (kt hg27 5 (kt hg26 5 (hB26.is 4))))
 refine in_value (o := _) rfl rfl rfl (v := .int .i64 ((pa2 : Int))) (by simp [go_sem, frv 47 k29_5]) ?_
 generalize hg30 : upd g29 42 (.int .i64 ((pa2 : Int))) = g30
 have k30_6 := ku hg30 6 (ku hg29 6 (kt hg28 6 (kt hg27 6 (hB27.is 2))))
 refine in_value (o := _) rfl rfl rfl (v := .int .i64 wh) (by simp [go_sem, frv 47 k30_6]) ?_
 generalize hg31 : upd g30 43 (.int .i64 wh) = g31
 have k31_41 := ku hg31 41 (ku hg30 41 (kt hg29 41 (upd_same _ _ _)))
 have k31_42 := ku hg31 42 (kt hg30 42 (upd_same _ _ _))
 have k31_43 := kt hg31 43 (upd_same _ _ _)
 refine in_round (o := _) (d := 44) rfl rfl rfl (l := l) (args := #[.int .i64 ((pa2 : Int)), .int .i64 wh]) (by simp [go_sem, frv 47 k31_41, frv 47 k31_42, frv 47 k31_43]) (hY2 W28 q53') ?_ (fun _ h => nomatch h.1) (fun _ _ h => nomatch h.1)
 rintro v_ W32 ⟨rv32, jj32, kx32⟩
 obtain rfl := Ending.returned.inj rv32
 have fB32 := Below.trans fB28 (kx32.below hbw (fB28).size)
 have z32 := kx32.size
 have b32_0 := kx32.block _ _ (by omega) b28_0
 generalize hg32 : upd g31 44 (.bool true) = g32
 have k32_44 := kt hg32 44 (upd_same _ _ _)
 refine in_value (o := _) rfl rfl rfl (v := .bool false) (by simp [go_sem, frv 47 k32_44]) ?_
 generalize hg33 : upd g32 45 (.bool false) = g33
 have k33_12 := ku hg33 12 (ku hg32 12 (ku hg31 12 (ku hg30 12 (ku hg29 12 (kt hg28 12 (kt hg27 12 (kt hg26 12 k25_12)))))))
 have k33_45 := kt hg33 45 (upd_same _ _ _)
 refine hK35 _ _ ?_
 refine wp_cond_false ((fr_eval rfl).trans k33_45) ?_
 refine wp_skip ?_
 refine ibn ?_
 refine hK29 _ _ ?_
 refine ry 2 [(46, 0), (12, 1)] [[], [0]] (rel [iI 3, iI 3])
  ⟨fun f s W hW c j k m a => opv rfl rfl (by simp [go_sem, a.e 12 ((k 1 12 rfl rfl).trans k33_12), IntWalk.i64_in (3) (by omega)]) rfl,
  fun f s W hW c j k m a => opm (a.v 46 (c 0 rfl)), trivial⟩ ?_
 intro f34 s34 W34 hB34 g34 hg34 z34
 have q54' := (hJb 3 _ _ jj32 hB34.below)
 refine wpe ?_
 have k34_11 := kt hg34 11 (ku hg33 11 (ku hg32 11 (ku hg31 11 (ku hg30 11 (ku hg29 11 (kt hg28 11 (kt hg27 11 (kt hg26 11 (kt hg25 11 k24_11)))))))))
 have k34_12 := kt hg34 12 (hB34.is 1)
 refine then_normal ?_
 rw [rounds_succ]
 refine rw_ 1 [(13, 0)] [[]] (rel [iB true])
  ⟨fun f s W hW c j k m a => opv rfl rfl (by simp [go_sem, a.e 12 k34_12, a.e 11 k34_11]) rfl, trivial⟩ ?_
 intro f35 s35 W35 hB35 g35 hg35 z35
 have fB35 := hB35.f (hB34.f fB32)
 have q55' := (hJb 3 _ _ q54' hB35.below)
 have k35_10 := kt hg35 10 (kt hg34 10 (ku hg33 10 (ku hg32 10 (ku hg31 10 (ku hg30 10 (ku hg29 10 (kt hg28 10 (kt hg27 10 (kt hg26 10 k25_10)))))))))
 have k35_12 := kt hg35 12 k34_12
 have k35_13 := kt hg35 13 (hB35.is 0)
 refine wp_seq_k fun K38 hK38 => ?_
 refine wp_cond_true ((fr_eval rfl).trans k35_13) ?_
 refine wp_skip ?_
 refine hK38 _ _ ?_
 refine wp_seq_k fun K40 hK40 => ?_
 refine wp_block ?_
 refine rw_ 5 [(14, 0), (15, 1), (16, 2), (4, 3), (5, 4)] [[], [], [1], [0], [2]] (rel [iI 3, is (.pointer (some ⟨tx, ux + 3, none⟩)), iI ((pa3 : Int)), iI 3, iI ((pa3 : Int))])
  ⟨fun f s W hW c j k m a => opm (a.v 12 k35_12),
  fun f s W hW c j k m a => opv rfl rfl (by simp [go_sem, a.e 10 k35_10, a.e 12 k35_12]) rfl,
  fun f s W hW c j k m a => by have p := bwt fB35 hW; have cu : W.cell? ⟨tx, ux + 3, none⟩ = some (.int .i64 (pa3 : Int)) := ii_cell (hX.below p (Nat.le_refl _)) 3 (by simp); exact opv rfl rfl (by simp [go_sem, a.e 15 (c 1 rfl), cu]) rfl,
  fun f s W hW c j k m a => opm (a.v 14 (c 0 rfl)),
  fun f s W hW c j k m a => opm (a.v 16 (c 2 rfl)), trivial⟩ ?_
 intro f36 s36 W36 hB36 g36 hg36 z36
 have b36_0 := hB36.b (hB35.b (hB34.b b32_0))
 have q56' := (hJb 3 _ _ q55' hB36.below)
 have k36_2 := kt hg36 2 (kt hg35 2 (kt hg34 2 (ku hg33 2 (ku hg32 2 (ku hg31 2 (ku hg30 2 (ku hg29 2 (kt hg28 2 (kt hg27 2 k26_2)))))))))
 refine rw_ 3 [(17, 0), (18, 1), (6, 2)] [[], [0], [1]] (rel [is (.pointer (some ⟨(s1 0), 4, none⟩)), iI wh, iI wh])
  ⟨fun f s W hW c j k m a => opv rfl rfl (by simp [go_sem, a.e 2 k36_2]) rfl,
  fun f s W hW c j k m a => opv rfl rfl (by simp [go_sem, a.e 17 (c 0 rfl), cb b36_0 hW 4]) rfl,
  fun f s W hW c j k m a => opm (a.v 18 (c 1 rfl)), trivial⟩ ?_
 intro f37 s37 W37 hB37 g37 hg37 z37
 have q57' := (hJb 3 _ _ q56' hB37.below)
 have k37_4 := kt hg37 4 (kt hg36 4 (hB36.is 3))
 refine wp_seq_k fun K43 hK43 => ?_
 refine rw_ 3 [(19, 0), (20, 1), (21, 2)] [[], [0], [1]] (rel [iI 3, iI 1, iB true])
  ⟨fun f s W hW c j k m a => opm (a.v 4 k37_4),
  fun f s W hW c j k m a => by have qw_ := IntWalk.i64_in (1) (by decide); exact opv rfl rfl (by simp [go_sem, a.e 19 (c 0 rfl), qw_]) rfl,
  fun f s W hW c j k m a => opv rfl rfl (by simp [go_sem, a.e 20 (c 1 rfl)]) rfl, trivial⟩ ?_
 intro f38 s38 W38 hB38 g38 hg38 z38
 have fB38 := hB38.f (hB37.f (hB36.f fB35))
 have b38_0 := hB38.b (hB37.b b36_0)
 have q58' := (hJb 3 _ _ q57' hB38.below)
 have k38_2 := kt hg38 2 (kt hg37 2 k36_2)
 have k38_4 := kt hg38 4 k37_4
 have k38_21 := kt hg38 21 (hB38.is 2)
 refine wp_cond_true ((fr_eval rfl).trans k38_21) ?_
 refine wp_seq_k fun K46 hK46 => ?_
 refine region_doL (LeT (W38.heap.size) 105 (justC (#[.int .i64 FA1.pitch, .int .i64 FA1.draw, .int .i64 FA1.h1, .int .i64 FA1.h2]))) LeT.refl (LeT.drew justC_b) LeT.trans (fun _ _ h => h.size) 14 [(22, 0), (23, 1), (24, 2), (25, 3), (26, 4), (27, 5), (28, 6), (29, 7), (30, 8), (31, 9), (32, 10), (33, 11), (7, 12)] [[], [0], [0, 1], [], [3], [3, 4], [], [6], [3, 4, 5, 6, 7], [3, 4, 5, 6, 7, 8], [0, 1, 2, 3, 4, 5, 6, 7, 8, 9], [0, 1, 2, 3, 4, 5, 6, 7, 8, 9, 10], [], [0, 1, 2, 3, 4, 5, 6, 7, 8, 9, 10, 11, 12]] (rel [is (.pointer (some ⟨(s1 0), 2, none⟩)),
   is (.pointer (some ⟨(s1 0), 3, none⟩)),
   is (.slice (some ⟨bq, oq, none⟩) nq cq),
   is (.pointer (some ⟨(s1 0), 0, none⟩)),
   is (.pointer (some ⟨(s1 0), 1, none⟩)),
   is (.slice (some ⟨tf, uf, none⟩) 2 cf),
   is (.int .i64 3),
   is (.int .i64 1),
   is (.pointer (some ⟨tf, uf + 1, none⟩)),
   is (.int .i64 ((fa1 : Int))),
   is (.pointer (some ⟨bq, oq + fa1 * 4, none⟩)),
   is (.agg #[.int .i64 FA1.pitch, .int .i64 FA1.draw, .int .i64 FA1.h1, .int .i64 FA1.h2]),
   boxT (W38.heap.size) 105 4 12,
   stoT (W38.heap.size) 105 (justC (#[.int .i64 FA1.pitch, .int .i64 FA1.draw, .int .i64 FA1.h1, .int .i64 FA1.h2])) 12]) (by kernel_rfl) (by kernel_rfl) (by kernel_rfl) (by kernel_rfl)
  ⟨is_kl, is_kl, is_kl, is_kl, is_kl, is_kl, is_kl, is_kl, is_kl, is_kl, is_kl, is_kl, boxT_k, stoT_k (by simp), trivial⟩
  ⟨fun f s W hT c j k m a => by have hW := LeT.below hT (Nat.le_refl _); exact OpDo.l (LeT.of_below justC_b) (opv rfl rfl (by simp [go_sem, a.e 2 k38_2]) rfl),
  fun f s W hT c j k m a => by have hW := LeT.below hT (Nat.le_refl _); exact OpDo.l (LeT.of_below justC_b) (opv rfl rfl (by simp [go_sem, a.e 22 (c 0 rfl)]) rfl),
  fun f s W hT c j k m a => by have hW := LeT.below hT (Nat.le_refl _); exact OpDo.l (LeT.of_below justC_b) (opv rfl rfl (by simp [go_sem, a.e 23 (c 1 rfl), cb b38_0 hW 3]) rfl),
  fun f s W hT c j k m a => by have hW := LeT.below hT (Nat.le_refl _); exact OpDo.l (LeT.of_below justC_b) (opv rfl rfl (by simp [go_sem, a.e 2 k38_2]) rfl),
  fun f s W hT c j k m a => by have hW := LeT.below hT (Nat.le_refl _); exact OpDo.l (LeT.of_below justC_b) (opv rfl rfl (by simp [go_sem, a.e 25 (c 3 rfl)]) rfl),
  fun f s W hT c j k m a => by have hW := LeT.below hT (Nat.le_refl _); exact OpDo.l (LeT.of_below justC_b) (opv rfl rfl (by simp [go_sem, a.e 26 (c 4 rfl), cb b38_0 hW 1]) rfl),
  fun f s W hT c j k m a => by have hW := LeT.below hT (Nat.le_refl _); exact OpDo.l (LeT.of_below justC_b) (opv rfl rfl (by simp [go_sem, a.e 4 k38_4]) rfl),
  fun f s W hT c j k m a => by have hW := LeT.below hT (Nat.le_refl _); exact OpDo.l (LeT.of_below justC_b) (by have qw_ := IntWalk.i64_in (1) (by decide); exact opv rfl rfl (by simp [go_sem, a.e 28 (c 6 rfl), qw_]) rfl),
  fun f s W hT c j k m a => by have hW := LeT.below hT (Nat.le_refl _); exact OpDo.l (LeT.of_below justC_b) (opv rfl rfl (by simp [go_sem, a.e 27 (c 5 rfl), a.e 29 (c 7 rfl)]) rfl),
  fun f s W hT c j k m a => by have hW := LeT.below hT (Nat.le_refl _); exact OpDo.l (LeT.of_below justC_b) (by have p := bwt fB38 hW; have cu : W.cell? ⟨tf, uf + 1, none⟩ = some (.int .i64 (fa1 : Int)) := ii_cell (hF.below p (Nat.le_refl _)) 1 (by simp); exact opv rfl rfl (by simp [go_sem, a.e 30 (c 8 rfl), cu]) rfl),
  fun f s W hT c j k m a => by have hW := LeT.below hT (Nat.le_refl _); exact OpDo.l (LeT.of_below justC_b) (by have li_ := Nat.not_le.2 hfa1; have lz_ : (fa1 : Int) < (nq : Int) := (by omega); exact opv rfl rfl (by simp [go_sem, a.e 24 (c 2 rfl), a.e 31 (c 9 rfl), li_, hfa1, lz_]) rfl),
  fun f s W hT c j k m a => by have hW := LeT.below hT (Nat.le_refl _); exact OpDo.l (LeT.of_below justC_b) (by have p := bwt fB38 hW; have E_ := (hQ.below p).2 fa1 hfa1; rw [efa1] at E_; obtain ⟨u0_, u1_, u2_, u3_⟩ := E_; have v0_ : W.cell? ⟨bq, oq + fa1 * 4, none⟩ = some (.int .i64 FA1.pitch) := u0_; have v1_ : W.cell? ⟨bq, oq + fa1 * 4 + 1, none⟩ = some (.int .i64 FA1.draw) := u1_; have v2_ : W.cell? ⟨bq, oq + fa1 * 4 + 2, none⟩ = some (.int .i64 FA1.h1) := u2_; have v3_ : W.cell? ⟨bq, oq + fa1 * 4 + 3, none⟩ = some (.int .i64 FA1.h2) := u3_; exact opv rfl rfl (by simp [go_sem, a.e 32 (c 10 rfl), v0_, v1_, v2_, v3_]) rfl),
  fun f s W hT c j k m a => opT (cs := #[.int .i64 0, .int .i64 0, .int .i64 0, .int .i64 0]) justC_b (hT.size) rfl rfl (by simp [go_sem]) rfl,
  fun f s W hT c j k m a => by exact stoT_do (#[.int .i64 FA1.pitch, .int .i64 FA1.draw, .int .i64 FA1.h1, .int .i64 FA1.h2]) rfl (by decide) (c 12 rfl) (a.v 7 (c 12 rfl).1) (a.v 33 (c 11 rfl)) rfl rfl (by rfl) (by rfl) ((rfl : justC (#[.int .i64 FA1.pitch, .int .i64 FA1.draw, .int .i64 FA1.h1, .int .i64 FA1.h2]) (#[.int .i64 FA1.pitch, .int .i64 FA1.draw, .int .i64 FA1.h1, .int .i64 FA1.h2]) W)) (fun _ _ _ h => h) (fun _ _ _ _ _ h => h), trivial⟩ ?_
 intro f39 s39 W39 hB39
 have hb39 := LeT.below hB39.le (Nat.le_refl _)
 have fB39 := bwt fB38 hb39
 have z39 : W38.heap.size ≤ W39.heap.size := hb39.size
 have b39_0 := bwb b38_0 hb39
 have q59' := (hJb 3 _ _ q58' hb39)
 obtain ⟨r39_12, lb39, -⟩ := hB39.is 12
 obtain ⟨-, cs39, bs39, hG39⟩ := hB39.is 13
 have hG39' : cs39 = #[.int .i64 FA1.pitch, .int .i64 FA1.draw, .int .i64 FA1.h1, .int .i64 FA1.h2] := hG39
 subst hG39'
 have lr39_12 : W38.heap.size ≤ s39 12 ∧ s39 12 < W39.heap.size := ⟨lb39, ltb bs39⟩
 generalize hg39 : ov [(22, 0), (23, 1), (24, 2), (25, 3), (26, 4), (27, 5), (28, 6), (29, 7), (30, 8), (31, 9), (32, 10), (33, 11), (7, 12)] f39 g38 = g39
 have k39_6 := kt hg39 6 (kt hg38 6 (kt hg37 6 (hB37.is 2)))
 have k39_7 := kt hg39 7 r39_12
 refine wpe ?_
 refine hK46 _ _ ?_
 refine ry 8 [(34, 0), (35, 1), (36, 2), (37, 3), (38, 4), (39, 5), (40, 6), (6, 7)] [[], [], [1], [0, 2], [], [4], [3, 5], [0, 6]] (rel [iI wh, is (.pointer (some ⟨(s39 12), 0, none⟩)), iI FA1.pitch, iI qv1, is (.pointer (some ⟨(s39 12), 1, none⟩)), iI FA1.draw, iI (qv1 * FA1.draw), iI (qv1 * FA1.draw)])
  ⟨fun f s W hW c j k m a => opm (a.v 6 ((k 7 6 rfl rfl).trans k39_6)),
  fun f s W hW c j k m a => opv rfl rfl (by simp [go_sem, a.e 7 k39_7]) rfl,
  fun f s W hW c j k m a => opv rfl rfl (by simp [go_sem, a.e 35 (c 1 rfl), cb bs39 hW 0]) rfl,
  fun f s W hW c j k m a => by have qu_ : (wh).tdiv FA1.pitch = qv1 := (Int.tdiv_eq_ediv_of_nonneg (by omega)).trans hqv1; have qw_ := IntWalk.i64_in (qv1) (by omega); have qz_ : ¬ FA1.pitch = 0 := (by omega); exact opv rfl rfl (by simp [go_sem, a.e 34 (c 0 rfl), a.e 36 (c 2 rfl), qu_, qw_, qz_]) rfl,
  fun f s W hW c j k m a => opv rfl rfl (by simp [go_sem, a.e 7 k39_7]) rfl,
  fun f s W hW c j k m a => opv rfl rfl (by simp [go_sem, a.e 38 (c 4 rfl), cb bs39 hW 1]) rfl,
  fun f s W hW c j k m a => opv rfl rfl (by simp [go_sem, a.e 37 (c 3 rfl), a.e 39 (c 5 rfl), IntWalk.i64_in (qv1 * FA1.draw) (by omega)]) rfl,
  fun f s W hW c j k m a => opm (a.v 40 (c 6 rfl)), trivial⟩ ?_
 intro f40 s40 W40 hB40 g40 hg40 z40
 have fB40 := hB40.f fB39
 have b40_0 := hB40.b b39_0
 have q60' := (hJb 3 _ _ q59' hB40.below)
 refine hK43 _ _ ?_
 have k40_1 := kt hg40 1 (kt hg39 1 (kt hg38 1 (kt hg37 1 (kt hg36 1 (kt hg35 1 (kt hg34 1 (ku hg33 1 (ku hg32 1 (ku hg31 1 (ku hg30 1 (ku hg29 1 k28_1)))))))))))
 refine wp_seq_k fun K47 hK47 => ?_
 refine (wpIn_wide (n := 8)).1 (wpIn_region ?_)
 show wpOpsIn _ _ _ _ _ [0, 1, 2, 3, 4] _ _
 refine in_value (o := _) rfl rfl rfl (v := .func (.yield l) #[] #[]) (by simp [go_sem, frv 47 k40_1]) ?_
 generalize hg41 : upd g40 41 (.func (.yield l) #[] #[]) = g41
 have k41_5 := ku hg41 5 (kt hg40 5 (kt hg39 5 (kt hg38 5 (kt hg37 5 (kt hg36 5 (hB36.is 4))))))
 refine in_value (o := _) rfl rfl rfl (v := .int .i64 ((pa3 : Int))) (by simp [go_sem, frv 47 k41_5]) ?_
 generalize hg42 : upd g41 42 (.int .i64 ((pa3 : Int))) = g42
 have k42_6 := ku hg42 6 (ku hg41 6 (kt hg40 6 (hB40.is 7)))
 refine in_value (o := _) rfl rfl rfl (v := .int .i64 (qv1 * FA1.draw)) (by simp [go_sem, frv 47 k42_6]) ?_
 generalize hg43 : upd g42 43 (.int .i64 (qv1 * FA1.draw)) = g43
 have k43_41 := ku hg43 41 (ku hg42 41 (kt hg41 41 (upd_same _ _ _)))
 have k43_42 := ku hg43 42 (kt hg42 42 (upd_same _ _ _))
 have k43_43 := kt hg43 43 (upd_same _ _ _)
 refine in_round (o := _) (d := 44) rfl rfl rfl (l := l) (args := #[.int .i64 ((pa3 : Int)), .int .i64 (qv1 * FA1.draw)]) (by simp [go_sem, frv 47 k43_41, frv 47 k43_42, frv 47 k43_43]) (hY3 W40 q60') ?_ (fun _ h => nomatch h.1) (fun _ _ h => nomatch h.1)
 rintro v_ W44 ⟨rv44, jj44, kx44⟩
 obtain rfl := Ending.returned.inj rv44
 have fB44 := Below.trans fB40 (kx44.below hbw (fB40).size)
 have z44 := kx44.size
 have b44_0 := kx44.block _ _ (by omega) b40_0
 generalize hg44 : upd g43 44 (.bool true) = g44
 have k44_44 := kt hg44 44 (upd_same _ _ _)
 refine in_value (o := _) rfl rfl rfl (v := .bool false) (by simp [go_sem, frv 47 k44_44]) ?_
 generalize hg45 : upd g44 45 (.bool false) = g45
 have k45_12 := ku hg45 12 (ku hg44 12 (ku hg43 12 (ku hg42 12 (ku hg41 12 (kt hg40 12 (kt hg39 12 (kt hg38 12 (kt hg37 12 (kt hg36 12 k35_12)))))))))
 have k45_45 := kt hg45 45 (upd_same _ _ _)
 refine hK47 _ _ ?_
 refine wp_cond_false ((fr_eval rfl).trans k45_45) ?_
 refine wp_skip ?_
 refine ibn ?_
 refine hK40 _ _ ?_
 refine ry 2 [(46, 0), (12, 1)] [[], [0]] (rel [iI 4, iI 4])
  ⟨fun f s W hW c j k m a => opv rfl rfl (by simp [go_sem, a.e 12 ((k 1 12 rfl rfl).trans k45_12), IntWalk.i64_in (4) (by omega)]) rfl,
  fun f s W hW c j k m a => opm (a.v 46 (c 0 rfl)), trivial⟩ ?_
 intro f46 s46 W46 hB46 g46 hg46 z46
 have q61' := (hJb 4 _ _ jj44 hB46.below)
 refine wpe ?_
 have k46_11 := kt hg46 11 (ku hg45 11 (ku hg44 11 (ku hg43 11 (ku hg42 11 (ku hg41 11 (kt hg40 11 (kt hg39 11 (kt hg38 11 (kt hg37 11 (kt hg36 11 (kt hg35 11 k34_11)))))))))))
 have k46_12 := kt hg46 12 (hB46.is 1)
 refine then_normal ?_
 rw [rounds_succ]
 refine rw_ 1 [(13, 0)] [[]] (rel [iB true])
  ⟨fun f s W hW c j k m a => opv rfl rfl (by simp [go_sem, a.e 12 k46_12, a.e 11 k46_11]) rfl, trivial⟩ ?_
 intro f47 s47 W47 hB47 g47 hg47 z47
 have fB47 := hB47.f (hB46.f fB44)
 have q62' := (hJb 4 _ _ q61' hB47.below)
 have k47_10 := kt hg47 10 (kt hg46 10 (ku hg45 10 (ku hg44 10 (ku hg43 10 (ku hg42 10 (ku hg41 10 (kt hg40 10 (kt hg39 10 (kt hg38 10 (kt hg37 10 (kt hg36 10 k35_10)))))))))))
 have k47_12 := kt hg47 12 k46_12
 have k47_13 := kt hg47 13 (hB47.is 0)
 refine wp_seq_k fun K50 hK50 => ?_
 refine wp_cond_true ((fr_eval rfl).trans k47_13) ?_
 refine wp_skip ?_
 refine hK50 _ _ ?_
 refine wp_seq_k fun K52 hK52 => ?_
 refine wp_block ?_
 refine rw_ 5 [(14, 0), (15, 1), (16, 2), (4, 3), (5, 4)] [[], [], [1], [0], [2]] (rel [iI 4, is (.pointer (some ⟨tx, ux + 4, none⟩)), iI ((pa4 : Int)), iI 4, iI ((pa4 : Int))])
  ⟨fun f s W hW c j k m a => opm (a.v 12 k47_12),
  fun f s W hW c j k m a => opv rfl rfl (by simp [go_sem, a.e 10 k47_10, a.e 12 k47_12]) rfl,
  fun f s W hW c j k m a => by have p := bwt fB47 hW; have cu : W.cell? ⟨tx, ux + 4, none⟩ = some (.int .i64 (pa4 : Int)) := ii_cell (hX.below p (Nat.le_refl _)) 4 (by simp); exact opv rfl rfl (by simp [go_sem, a.e 15 (c 1 rfl), cu]) rfl,
  fun f s W hW c j k m a => opm (a.v 14 (c 0 rfl)),
  fun f s W hW c j k m a => opm (a.v 16 (c 2 rfl)), trivial⟩ ?_
 intro f48 s48 W48 hB48 g48 hg48 z48
 have b48_0 := hB48.b (hB47.b (hB46.b b44_0))
 have q63' := (hJb 4 _ _ q62' hB48.below)
 have k48_2 := kt hg48 2 (kt hg47 2 (kt hg46 2 (ku hg45 2 (ku hg44 2 (ku hg43 2 (ku hg42 2 (ku hg41 2 (kt hg40 2 (kt hg39 2 k38_2)))))))))
 refine rw_ 3 [(17, 0), (18, 1), (6, 2)] [[], [0], [1]] (rel [is (.pointer (some ⟨(s1 0), 4, none⟩)), iI wh, iI wh])
  ⟨fun f s W hW c j k m a => opv rfl rfl (by simp [go_sem, a.e 2 k48_2]) rfl,
  fun f s W hW c j k m a => opv rfl rfl (by simp [go_sem, a.e 17 (c 0 rfl), cb b48_0 hW 4]) rfl,
  fun f s W hW c j k m a => opm (a.v 18 (c 1 rfl)), trivial⟩ ?_
 intro f49 s49 W49 hB49 g49 hg49 z49
 have q64' := (hJb 4 _ _ q63' hB49.below)
 have k49_4 := kt hg49 4 (kt hg48 4 (hB48.is 3))
 refine wp_seq_k fun K55 hK55 => ?_
 refine rw_ 3 [(19, 0), (20, 1), (21, 2)] [[], [0], [1]] (rel [iI 4, iI 0, iB false])
  ⟨fun f s W hW c j k m a => opm (a.v 4 k49_4),
  fun f s W hW c j k m a => by have qw_ := IntWalk.i64_in (0) (by decide); exact opv rfl rfl (by simp [go_sem, a.e 19 (c 0 rfl), qw_]) rfl,
  fun f s W hW c j k m a => opv rfl rfl (by simp [go_sem, a.e 20 (c 1 rfl)]) rfl, trivial⟩ ?_
 intro f50 s50 W50 hB50 g50 hg50 z50
 have fB50 := hB50.f (hB49.f (hB48.f fB47))
 have q65' := (hJb 4 _ _ q64' hB50.below)
 have k50_1 := kt hg50 1 (kt hg49 1 (kt hg48 1 (kt hg47 1 (kt hg46 1 (ku hg45 1 (ku hg44 1 (ku hg43 1 (ku hg42 1 (ku hg41 1 k40_1)))))))))
 have k50_21 := kt hg50 21 (hB50.is 2)
 refine wp_cond_false ((fr_eval rfl).trans k50_21) ?_
 refine wp_skip ?_
 refine hK55 _ _ ?_
 refine wp_seq_k fun K58 hK58 => ?_
 refine (wpIn_wide (n := 8)).1 (wpIn_region ?_)
 show wpOpsIn _ _ _ _ _ [0, 1, 2, 3, 4] _ _
 refine in_value (o := _) rfl rfl rfl (v := .func (.yield l) #[] #[]) (by simp [go_sem, frv 47 k50_1]) ?_
 generalize hg51 : upd g50 41 (.func (.yield l) #[] #[]) = g51
 have k51_5 := ku hg51 5 (kt hg50 5 (kt hg49 5 (kt hg48 5 (hB48.is 4))))
 refine in_value (o := _) rfl rfl rfl (v := .int .i64 ((pa4 : Int))) (by simp [go_sem, frv 47 k51_5]) ?_
 generalize hg52 : upd g51 42 (.int .i64 ((pa4 : Int))) = g52
 have k52_6 := ku hg52 6 (ku hg51 6 (kt hg50 6 (kt hg49 6 (hB49.is 2))))
 refine in_value (o := _) rfl rfl rfl (v := .int .i64 wh) (by simp [go_sem, frv 47 k52_6]) ?_
 generalize hg53 : upd g52 43 (.int .i64 wh) = g53
 have k53_41 := ku hg53 41 (ku hg52 41 (kt hg51 41 (upd_same _ _ _)))
 have k53_42 := ku hg53 42 (kt hg52 42 (upd_same _ _ _))
 have k53_43 := kt hg53 43 (upd_same _ _ _)
 refine in_round (o := _) (d := 44) rfl rfl rfl (l := l) (args := #[.int .i64 ((pa4 : Int)), .int .i64 wh]) (by simp [go_sem, frv 47 k53_41, frv 47 k53_42, frv 47 k53_43]) (hY4 W50 q65') ?_ (fun _ h => nomatch h.1) (fun _ _ h => nomatch h.1)
 rintro v_ W54 ⟨rv54, jj54, kx54⟩
 obtain rfl := Ending.returned.inj rv54
 have fB54 := Below.trans fB50 (kx54.below hbw (fB50).size)
 have z54 := kx54.size
 generalize hg54 : upd g53 44 (.bool true) = g54
 have k54_44 := kt hg54 44 (upd_same _ _ _)
 refine in_value (o := _) rfl rfl rfl (v := .bool false) (by simp [go_sem, frv 47 k54_44]) ?_
 generalize hg55 : upd g54 45 (.bool false) = g55
 have k55_12 := ku hg55 12 (ku hg54 12 (ku hg53 12 (ku hg52 12 (ku hg51 12 (kt hg50 12 (kt hg49 12 (kt hg48 12 k47_12)))))))
 have k55_45 := kt hg55 45 (upd_same _ _ _)
 refine hK58 _ _ ?_
 refine wp_cond_false ((fr_eval rfl).trans k55_45) ?_
 refine wp_skip ?_
 refine ibn ?_
 refine hK52 _ _ ?_
 refine ry 2 [(46, 0), (12, 1)] [[], [0]] (rel [iI 5, iI 5])
  ⟨fun f s W hW c j k m a => opv rfl rfl (by simp [go_sem, a.e 12 ((k 1 12 rfl rfl).trans k55_12), IntWalk.i64_in (5) (by omega)]) rfl,
  fun f s W hW c j k m a => opm (a.v 46 (c 0 rfl)), trivial⟩ ?_
 intro f56 s56 W56 hB56 g56 hg56 z56
 have q66' := (hJb 5 _ _ jj54 hB56.below)
 refine wpe ?_
 have k56_11 := kt hg56 11 (ku hg55 11 (ku hg54 11 (ku hg53 11 (ku hg52 11 (ku hg51 11 (kt hg50 11 (kt hg49 11 (kt hg48 11 (kt hg47 11 k46_11)))))))))
 have k56_12 := kt hg56 12 (hB56.is 1)
 refine then_normal ?_
 rw [rounds_succ]
 refine rw_ 1 [(13, 0)] [[]] (rel [iB false])
  ⟨fun f s W hW c j k m a => opv rfl rfl (by simp [go_sem, a.e 12 k56_12, a.e 11 k56_11]) rfl, trivial⟩ ?_
 intro f57 s57 W57 hB57 g57 hg57 z57
 have fB57 := hB57.f (hB56.f fB54)
 have q67' := (hJb 5 _ _ q66' hB57.below)
 have k57_13 := kt hg57 13 (hB57.is 0)
 refine wp_seq_k fun K61 hK61 => ?_
 refine wp_cond_false ((fr_eval rfl).trans k57_13) ?_
 refine wp_exit ?_
 refine then_exit ?_
 refine then_exit ?_
 refine inBlock_at ?_
 refine leave_gen (v := .tuple #[]) (.inl rfl) (by simp [results, Try.results104, go_sem]) ?_
 exact ⟨⟨_, rfl⟩, q67'⟩
end Go.Proofs.Ytolnpbpeifpbjaa
