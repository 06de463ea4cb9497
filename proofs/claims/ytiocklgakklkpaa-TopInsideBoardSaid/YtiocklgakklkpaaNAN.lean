/- Part of the proof: what the claim leans on. -/
import Derived.Test.YtiocklgakklkpaaNAL
import Derived.Test.YtiocklgakklkpaaNAM
import Derived.Test.YtiocklgakklkpaaNAJ
import Derived.Test.YtiocklgakklkpaaNAI
set_option linter.unusedSimpArgs false
set_option linter.unusedVariables false
namespace Go.Proofs.Ytiocklgakklkpaa
open Go.RowKit
theorem in_value {n : Nat} {P : Program} {ops : Array Oper} {Q : Exit → Act → World → Prop} {i d N : Nat} {L : List Nat} {g : Nat → Value} {W : World} {o : Oper} {v : Value} (ho : ops[i]? = some o) (hg : o.guard = none) (hd : o.dst = some d) (hr : (execOp (fr N g).eval o).run P W = .ok (.value v) W)
    (h : wpOpsIn Fence.wide n P ops Q L (fr N (upd g d v)) W) : wpOpsIn Fence.wide n P ops Q (i :: L) (fr N g) W := by
  rw [wpOpsIn_cons]
  unfold wpOpIn
  simp only [ho, Region.wanted, hg, if_true]
  refine ⟨fun _ _ => trivial, ?_⟩
  show o.uponIn _ _ _ _ _ _ ((execOp (fr N g).eval o).run P W)
  rw [hr]
  show wpOpsIn _ _ _ _ _ _ ((fr N g).put o.dst v) W
  rw [hd, fr_put]; exact h
theorem in_round {n : Nat} {P : Program} {ops : Array Oper} {Q : Exit → Act → World → Prop} {i d N l : Nat} {args : Array Value} {L : List Nat} {g : Nat → Value} {W : World} {o : Oper} {R : Ending → World → Prop} (ho : ops[i]? = some o) (hg : o.guard = none) (hd : o.dst = some d) (hr : (execOp (fr N g).eval o).run P W = (Instr.yield l args).run P W)
    (hy : YieldAt Fence.wide (n - 1) P l args W R) (hK : ∀ v W', R (.returned v) W' → wpOpsIn Fence.wide n P ops Q L (fr N (upd g d v)) W') (h1 : ∀ W', ¬ R .outgrown W') (h2 : ∀ c W', ¬ R (.panicked c) W') : wpOpsIn Fence.wide n P ops Q (i :: L) (fr N g) W := by
  rw [wpOpsIn_cons]
  unfold wpOpIn
  simp only [ho, Region.wanted, hg, if_true]
  refine ⟨fun _ _ => trivial, ?_⟩
  show o.uponIn _ _ _ _ _ _ ((execOp (fr N g).eval o).run P W)
  obtain ⟨fn, tmps, assign, body, h3, h4⟩ := hy
  rw [hr, h3, Oper.uponIn_round]
  refine ⟨fun h => by simp [Fence.wide] at h, h4.mono fun e W' he => ?_⟩
  cases e with
  | returned v =>
    show wpOpsIn _ _ _ _ _ _ ((fr N g).put o.dst v) W'
    rw [hd, fr_put]; exact hK v W' he
  | panicked c => exact absurd he (h2 c W')
  | outgrown => exact absurd he (h1 W')
set_option maxRecDepth 100000 in
set_option maxHeartbeats 16000000 in
theorem layers_1 (ps : Nat → Pa) (qs : Nat → Fu) (bp oP np cp bq oq nq cq : Nat) (tx ux cx tf uf cf pa0 pa1 pa2 fa0 : Nat) (PA0 PA1 PA2 : Pa) (FA0 : Fu) (wh : Int) (qv0 : Int) (l bn : Nat) (J : Nat → World → Prop) (w v1 : World)  (hP : PaR w bp oP np ps) (hQ : FuR w bq oq nq qs) (hpi : ∀ i, i < np → PaIn (ps i)) (hqi : ∀ i, i < nq → FuIn (qs i)) (np1 : 1 ≤ np) (np8 : np ≤ 8) (nq1 : 1 ≤ nq) (nq4 : nq ≤ 4) (hX : Ii w (some ⟨tx, ux, none⟩) 3 cx [(pa0 : Int), (pa1 : Int), (pa2 : Int)]) (hF : Ii w (some ⟨tf, uf, none⟩) 1 cf [(fa0 : Int)]) (hpa0 : pa0 < np) (epa0 : ps pa0 = PA0) (hpa1 : pa1 < np) (epa1 : ps pa1 = PA1) (hpa2 : pa2 < np) (epa2 : ps pa2 = PA2) (hfa0 : fa0 < nq) (efa0 : qs fa0 = FA0) (hk0 : PA0.kind = 1) (hk1 : PA1.kind = 2) (hk2 : PA2.kind = 1) (hwh : FA0.pitch = wh) (gwh : 0 ≤ wh ∧ wh ≤ 100000000) (gw1 : 0 ≤ FA0.pitch ∧ FA0.pitch ≤ 10000) (hB0 : Below w.heap.size w v1) (hbw : w.heap.size ≤ bn) (hbn : bn < v1.heap.size) (hJb : ∀ i W W', J i W → Below W.heap.size W W' → J i W') (hJ0 : J 0 v1) (hqv0 : wh / FA0.pitch = qv0) (gqv0 : 0 ≤ qv0 ∧ qv0 ≤ 100000000) (gqd0 : 0 ≤ qv0 * FA0.draw ∧ qv0 * FA0.draw ≤ 200000000) (gpi0 : 1000 ≤ FA0.pitch ∧ FA0.pitch ≤ 10000) (hY0 : ∀ W, J 0 W → YieldAt Fence.wide 7 Try.prog l #[.int .i64 (pa0 : Int), .int .i64 wh] W fun e W' => e = .returned (.bool true) ∧ J 1 W' ∧ KeepX bn W W') (hY1 : ∀ W, J 1 W → YieldAt Fence.wide 7 Try.prog l #[.int .i64 (pa1 : Int), .int .i64 (qv0 * FA0.draw)] W fun e W' => e = .returned (.bool true) ∧ J 2 W' ∧ KeepX bn W W') (hY2 : ∀ W, J 2 W → YieldAt Fence.wide 7 Try.prog l #[.int .i64 (pa2 : Int), .int .i64 wh] W fun e W' => e = .returned (.bool true) ∧ J 3 W' ∧ KeepX bn W W') :
  Calls Try.prog 70 #[.agg #[.slice (some ⟨tx, ux, none⟩) (3) (cx), .slice (some ⟨tf, uf, none⟩) (1) (cf), .slice (some ⟨bp, oP, none⟩) (np) (cp), .slice (some ⟨bq, oq, none⟩) (nq) (cq), .int .i64 wh], .func (.yield l) #[] #[]] v1 (fun e w' => (∃ v, e = .returned v) ∧ J 3 w') := by
 refine calls_fr Try.func70 Try.ntmps70 rfl rfl fun g hg => ?_
 have k0 : g 0 = .agg #[.slice (some ⟨tx, ux, none⟩) (3) (cx), .slice (some ⟨tf, uf, none⟩) (1) (cf), .slice (some ⟨bp, oP, none⟩) (np) (cp), .slice (some ⟨bq, oq, none⟩) (nq) (cq), .int .i64 wh] := hg 0
 have k1 : g 1 = .func (.yield l) #[] #[] := hg 1
 clear hg
 have fB0 : Below w.heap.size w v1 := hB0
 refine wp_seq_k fun K1 hK1 => ?_
 refine region_dk 1 [(2, 0)] [[]] (rel [bx 0 #[.slice (some ⟨tx, ux, none⟩) (3) (cx), .slice (some ⟨tf, uf, none⟩) (1) (cf), .slice (some ⟨bp, oP, none⟩) (np) (cp), .slice (some ⟨bq, oq, none⟩) (nq) (cq), .int .i64 wh] 72])
  ⟨bx_k, trivial⟩
  ⟨fun f s W hW c j k m a => opb rfl rfl (by simp [go_sem, a.e 0 k0]), trivial⟩ ?_
 intro f1 s1 W1 hB1 g1 hg1
 have fB1 := hB1.f fB0
 have z1 := hB1.below.size
 have q16' := (hJb 0 _ _ hJ0 hB1.below)
 obtain ⟨r1_0, br1_0⟩ := hB1.is 0
 have lr1_0 := hB1.lr 0 br1_0
 refine hK1 _ _ ?_
 have k1_1 := kt hg1 1 k1
 have k1_2 := kt hg1 2 r1_0
 refine wp_seq_k fun K2 hK2 => ?_
 refine region_dk 5 [(8, 0), (9, 1), (10, 2), (11, 3), (12, 4)] [[], [0], [0, 1], [0, 1, 2], []] (rel [is (.pointer (some ⟨(s1 0), 0, none⟩)),
   is (.pointer (some ⟨(s1 0), 0, none⟩)),
   is (.slice (some ⟨tx, ux, none⟩) (3) (cx)),
   is (.int .i64 3),
   is (.int .i64 0)])
  ⟨is_k, is_k, is_k, is_k, is_k, trivial⟩
  ⟨fun f s W hW c j k m a => opv rfl rfl (by simp [go_sem, a.e 2 k1_2]) rfl,
  fun f s W hW c j k m a => opv rfl rfl (by simp [go_sem, a.e 8 (c 0 rfl)]) rfl,
  fun f s W hW c j k m a => opv rfl rfl (by simp [go_sem, a.e 9 (c 1 rfl), cb br1_0 hW 0]) rfl,
  fun f s W hW c j k m a => opv rfl rfl (by simp [go_sem, a.e 10 (c 2 rfl)]) rfl,
  fun f s W hW c j k m a => opv rfl rfl (by simp [go_sem]) rfl, trivial⟩ ?_
 intro f2 s2 W2 hB2 g2 hg2
 have fB2 := hB2.f fB1
 have z2 := hB2.below.size
 have b2_0 := hB2.b br1_0
 have q17' := (hJb 0 _ _ q16' hB2.below)
 refine hK2 _ _ ?_
 have k2_1 := kt hg2 1 k1_1
 have k2_2 := kt hg2 2 k1_2
 have k2_10 := kt hg2 10 (hB2.is 2)
 have k2_11 := kt hg2 11 (hB2.is 3)
 have k2_12 := kt hg2 12 (hB2.is 4)
 refine wp_block ?_
 refine wp_loop_rounds 4 ?_
 rw [rounds_succ]
 refine wp_seq_k fun K3 hK3 => ?_
 refine region_dk 1 [(13, 0)] [[]] (rel [is (.bool true)])
  ⟨is_k, trivial⟩
  ⟨fun f s W hW c j k m a => opv rfl rfl (by simp [go_sem, a.e 12 k2_12, a.e 11 k2_11]) rfl, trivial⟩ ?_
 intro f3 s3 W3 hB3 g3 hg3
 have fB3 := hB3.f fB2
 have z3 := hB3.below.size
 have b3_0 := hB3.b b2_0
 have q18' := (hJb 0 _ _ q17' hB3.below)
 refine hK3 _ _ ?_
 have k3_1 := kt hg3 1 k2_1
 have k3_2 := kt hg3 2 k2_2
 have k3_10 := kt hg3 10 k2_10
 have k3_11 := kt hg3 11 k2_11
 have k3_12 := kt hg3 12 k2_12
 have k3_13 := kt hg3 13 (hB3.is 0)
 refine wp_seq_k fun K4 hK4 => ?_
 refine wp_cond_true ((fr_eval rfl).trans k3_13) ?_
 refine wp_skip ?_
 refine hK4 _ _ ?_
 refine wp_seq_k fun K6 hK6 => ?_
 refine wp_block ?_
 refine wp_seq_k fun K7 hK7 => ?_
 refine region_dk 5 [(14, 0), (15, 1), (16, 2), (4, 3), (5, 4)] [[], [], [1], [0, 1, 2], [0, 1, 2, 3]] (rel [is (.int .i64 0),
   is (.pointer (some ⟨tx, ux, none⟩)),
   is (.int .i64 ((pa0 : Int))),
   is (.int .i64 0),
   is (.int .i64 ((pa0 : Int)))])
  ⟨is_k, is_k, is_k, is_k, is_k, trivial⟩
  ⟨fun f s W hW c j k m a => opv rfl rfl (by simp [go_sem, a.e 12 k3_12]) rfl,
  fun f s W hW c j k m a => opv rfl rfl (by simp [go_sem, a.e 10 k3_10, a.e 12 k3_12]) rfl,
  fun f s W hW c j k m a => by have p := below_trans fB3 hW; have cu : W.cell? ⟨tx, ux, none⟩ = some (.int .i64 (pa0 : Int)) := ii_cell (hX.below p (Nat.le_refl _)) 0 (by simp); exact opv rfl rfl (by simp [go_sem, a.e 15 (c 1 rfl), cu]) rfl,
  fun f s W hW c j k m a => opv rfl rfl (by simp [go_sem, a.e 14 (c 0 rfl)]) rfl,
  fun f s W hW c j k m a => opv rfl rfl (by simp [go_sem, a.e 16 (c 2 rfl)]) rfl, trivial⟩ ?_
 intro f4 s4 W4 hB4 g4 hg4
 have fB4 := hB4.f fB3
 have z4 := hB4.below.size
 have b4_0 := hB4.b b3_0
 have q19' := (hJb 0 _ _ q18' hB4.below)
 refine hK7 _ _ ?_
 have k4_1 := kt hg4 1 k3_1
 have k4_2 := kt hg4 2 k3_2
 have k4_10 := kt hg4 10 k3_10
 have k4_11 := kt hg4 11 k3_11
 have k4_12 := kt hg4 12 k3_12
 have k4_13 := kt hg4 13 k3_13
 have k4_4 := kt hg4 4 (hB4.is 3)
 have k4_5 := kt hg4 5 (hB4.is 4)
 refine wp_seq_k fun K8 hK8 => ?_
 refine region_dk 3 [(17, 0), (18, 1), (6, 2)] [[], [0], [0, 1]] (rel [is (.pointer (some ⟨(s1 0), 4, none⟩)),
   is (.int .i64 wh),
   is (.int .i64 wh)])
  ⟨is_k, is_k, is_k, trivial⟩
  ⟨fun f s W hW c j k m a => opv rfl rfl (by simp [go_sem, a.e 2 k4_2]) rfl,
  fun f s W hW c j k m a => opv rfl rfl (by simp [go_sem, a.e 17 (c 0 rfl), cb b4_0 hW 4]) rfl,
  fun f s W hW c j k m a => opv rfl rfl (by simp [go_sem, a.e 18 (c 1 rfl)]) rfl, trivial⟩ ?_
 intro f5 s5 W5 hB5 g5 hg5
 have fB5 := hB5.f fB4
 have z5 := hB5.below.size
 have b5_0 := hB5.b b4_0
 have q20' := (hJb 0 _ _ q19' hB5.below)
 refine hK8 _ _ ?_
 have k5_1 := kt hg5 1 k4_1
 have k5_2 := kt hg5 2 k4_2
 have k5_10 := kt hg5 10 k4_10
 have k5_11 := kt hg5 11 k4_11
 have k5_12 := kt hg5 12 k4_12
 have k5_13 := kt hg5 13 k4_13
 have k5_4 := kt hg5 4 k4_4
 have k5_5 := kt hg5 5 k4_5
 have k5_6 := kt hg5 6 (hB5.is 2)
 refine wp_seq_k fun K9 hK9 => ?_
 refine wp_seq_k fun K10 hK10 => ?_
 refine region_dk 3 [(19, 0), (20, 1), (21, 2)] [[], [0], [0, 1]] (rel [is (.int .i64 0),
   is (.int .i64 0),
   is (.bool false)])
  ⟨is_k, is_k, is_k, trivial⟩
  ⟨fun f s W hW c j k m a => opv rfl rfl (by simp [go_sem, a.e 4 k5_4]) rfl,
  fun f s W hW c j k m a => by have qw_ := IntWalk.i64_in (0) (by decide); exact opv rfl rfl (by simp [go_sem, a.e 19 (c 0 rfl), qw_]) rfl,
  fun f s W hW c j k m a => opv rfl rfl (by simp [go_sem, a.e 20 (c 1 rfl)]) rfl, trivial⟩ ?_
 intro f6 s6 W6 hB6 g6 hg6
 have fB6 := hB6.f fB5
 have z6 := hB6.below.size
 have b6_0 := hB6.b b5_0
 have q21' := (hJb 0 _ _ q20' hB6.below)
 refine hK10 _ _ ?_
 have k6_1 := kt hg6 1 k5_1
 have k6_2 := kt hg6 2 k5_2
 have k6_10 := kt hg6 10 k5_10
 have k6_11 := kt hg6 11 k5_11
 have k6_12 := kt hg6 12 k5_12
 have k6_13 := kt hg6 13 k5_13
 have k6_4 := kt hg6 4 k5_4
 have k6_5 := kt hg6 5 k5_5
 have k6_6 := kt hg6 6 k5_6
 have k6_21 := kt hg6 21 (hB6.is 2)
 refine wp_cond_false ((fr_eval rfl).trans k6_21) ?_
 refine wp_skip ?_
 refine hK9 _ _ ?_
 refine wp_seq_k fun K12 hK12 => ?_
 refine (wpIn_wide (n := 8)).1 (wpIn_region ?_)
 show wpOpsIn _ _ _ _ _ [0, 1, 2, 3, 4] _ _
 refine in_value (o := _) rfl rfl rfl (v := .func (.yield l) #[] #[]) (by simp [go_sem, frv 47 k6_1]) ?_
 generalize hg7 : upd g6 41 (.func (.yield l) #[] #[]) = g7
 have k7_1 := ku hg7 1 k6_1
 have k7_2 := ku hg7 2 k6_2
 have k7_10 := ku hg7 10 k6_10
 have k7_11 := ku hg7 11 k6_11
 have k7_12 := ku hg7 12 k6_12
 have k7_13 := ku hg7 13 k6_13
 have k7_4 := ku hg7 4 k6_4
 have k7_5 := ku hg7 5 k6_5
 have k7_6 := ku hg7 6 k6_6
 have k7_21 := ku hg7 21 k6_21
 have k7_41 := kt hg7 41 (upd_same _ _ _)
 refine in_value (o := _) rfl rfl rfl (v := .int .i64 ((pa0 : Int))) (by simp [go_sem, frv 47 k7_5]) ?_
 generalize hg8 : upd g7 42 (.int .i64 ((pa0 : Int))) = g8
 have k8_1 := ku hg8 1 k7_1
 have k8_2 := ku hg8 2 k7_2
 have k8_10 := ku hg8 10 k7_10
 have k8_11 := ku hg8 11 k7_11
 have k8_12 := ku hg8 12 k7_12
 have k8_13 := ku hg8 13 k7_13
 have k8_4 := ku hg8 4 k7_4
 have k8_5 := ku hg8 5 k7_5
 have k8_6 := ku hg8 6 k7_6
 have k8_21 := ku hg8 21 k7_21
 have k8_41 := ku hg8 41 k7_41
 have k8_42 := kt hg8 42 (upd_same _ _ _)
 refine in_value (o := _) rfl rfl rfl (v := .int .i64 wh) (by simp [go_sem, frv 47 k8_6]) ?_
 generalize hg9 : upd g8 43 (.int .i64 wh) = g9
 have k9_1 := ku hg9 1 k8_1
 have k9_2 := ku hg9 2 k8_2
 have k9_10 := ku hg9 10 k8_10
 have k9_11 := ku hg9 11 k8_11
 have k9_12 := ku hg9 12 k8_12
 have k9_13 := ku hg9 13 k8_13
 have k9_4 := ku hg9 4 k8_4
 have k9_5 := ku hg9 5 k8_5
 have k9_6 := ku hg9 6 k8_6
 have k9_21 := ku hg9 21 k8_21
 have k9_41 := ku hg9 41 k8_41
 have k9_42 := ku hg9 42 k8_42
 have k9_43 := kt hg9 43 (upd_same _ _ _)
 refine in_round (o := _) (d := 44) rfl rfl rfl (l := l) (args := #[.int .i64 ((pa0 : Int)), .int .i64 wh]) (by simp [go_sem, frv 47 k9_41, frv 47 k9_42, frv 47 k9_43]) (hY0 W6 q21') ?_ (fun _ h => nomatch h.1) (fun _ _ h => nomatch h.1)
 rintro v_ W10 ⟨rv10, jj10, kx10⟩
 obtain rfl := Ending.returned.inj rv10
 have fB10 := Below.trans fB6 (kx10.below hbw (fB6).size)
 have z10 := kx10.size
 have b10_0 := kx10.block _ _ (by omega) b6_0
 generalize hg10 : upd g9 44 (.bool true) = g10
 have k10_1 := ku hg10 1 k9_1
 have k10_2 := ku hg10 2 k9_2
 have k10_10 := ku hg10 10 k9_10
 have k10_11 := ku hg10 11 k9_11
 have k10_12 := ku hg10 12 k9_12
 have k10_13 := ku hg10 13 k9_13
 have k10_4 := ku hg10 4 k9_4
 have k10_5 := ku hg10 5 k9_5
 have k10_6 := ku hg10 6 k9_6
 have k10_21 := ku hg10 21 k9_21
 have k10_41 := ku hg10 41 k9_41
 have k10_42 := ku hg10 42 k9_42
 have k10_43 := ku hg10 43 k9_43
 have k10_44 := kt hg10 44 (upd_same _ _ _)
 refine in_value (o := _) rfl rfl rfl (v := .bool false) (by simp [go_sem, frv 47 k10_44]) ?_
 generalize hg11 : upd g10 45 (.bool false) = g11
 have k11_1 := ku hg11 1 k10_1
 have k11_2 := ku hg11 2 k10_2
 have k11_10 := ku hg11 10 k10_10
 have k11_11 := ku hg11 11 k10_11
 have k11_12 := ku hg11 12 k10_12
 have k11_13 := ku hg11 13 k10_13
 have k11_4 := ku hg11 4 k10_4
 have k11_5 := ku hg11 5 k10_5
 have k11_6 := ku hg11 6 k10_6
 have k11_21 := ku hg11 21 k10_21
 have k11_41 := ku hg11 41 k10_41
 have k11_42 := ku hg11 42 k10_42
 have k11_43 := ku hg11 43 k10_43
 have k11_44 := ku hg11 44 k10_44
 have k11_45 := kt hg11 45 (upd_same _ _ _)
 refine hK12 _ _ ?_
 refine wp_cond_false ((fr_eval rfl).trans k11_45) ?_
 refine wp_skip ?_
 refine inBlock_normal ?_
 refine hK6 _ _ ?_
 refine region_dk 2 [(46, 0), (12, 1)] [[], [0]] (rel [is (.int .i64 1),
   is (.int .i64 1)])
  ⟨is_k, is_k, trivial⟩
  ⟨fun f s W hW c j k m a => opv rfl rfl (by simp [go_sem, a.e 12 ((k 1 12 rfl rfl).trans k11_12), IntWalk.i64_in (1) (by omega)]) rfl,
  fun f s W hW c j k m a => opv rfl rfl (by simp [go_sem, a.e 46 (c 0 rfl)]) rfl, trivial⟩ ?_
 intro f12 s12 W12 hB12 g12 hg12
 have fB12 := hB12.f fB10
 have z12 := hB12.below.size
 have b12_0 := hB12.b b10_0
 have q22' := (hJb 1 _ _ jj10 hB12.below)
 refine wpOps_end ?_
 have k12_1 := kt hg12 1 k11_1
 have k12_2 := kt hg12 2 k11_2
 have k12_10 := kt hg12 10 k11_10
 have k12_11 := kt hg12 11 k11_11
 have k12_13 := kt hg12 13 k11_13
 have k12_4 := kt hg12 4 k11_4
 have k12_5 := kt hg12 5 k11_5
 have k12_6 := kt hg12 6 k11_6
 have k12_21 := kt hg12 21 k11_21
 have k12_41 := kt hg12 41 k11_41
 have k12_42 := kt hg12 42 k11_42
 have k12_43 := kt hg12 43 k11_43
 have k12_44 := kt hg12 44 k11_44
 have k12_45 := kt hg12 45 k11_45
 have k12_12 := kt hg12 12 (hB12.is 1)
 refine then_normal ?_
 rw [rounds_succ]
 refine wp_seq_k fun K14 hK14 => ?_
 refine region_dk 1 [(13, 0)] [[]] (rel [is (.bool true)])
  ⟨is_k, trivial⟩
  ⟨fun f s W hW c j k m a => opv rfl rfl (by simp [go_sem, a.e 12 k12_12, a.e 11 k12_11]) rfl, trivial⟩ ?_
 intro f13 s13 W13 hB13 g13 hg13
 have fB13 := hB13.f fB12
 have z13 := hB13.below.size
 have b13_0 := hB13.b b12_0
 have q23' := (hJb 1 _ _ q22' hB13.below)
 refine hK14 _ _ ?_
 have k13_1 := kt hg13 1 k12_1
 have k13_2 := kt hg13 2 k12_2
 have k13_10 := kt hg13 10 k12_10
 have k13_11 := kt hg13 11 k12_11
 have k13_4 := kt hg13 4 k12_4
 have k13_5 := kt hg13 5 k12_5
 have k13_6 := kt hg13 6 k12_6
 have k13_21 := kt hg13 21 k12_21
 have k13_41 := kt hg13 41 k12_41
 have k13_42 := kt hg13 42 k12_42
 have k13_43 := kt hg13 43 k12_43
 have k13_44 := kt hg13 44 k12_44
 have k13_45 := kt hg13 45 k12_45
 have k13_12 := kt hg13 12 k12_12
 have k13_13 := kt hg13 13 (hB13.is 0)
 refine wp_seq_k fun K15 hK15 => ?_
 refine wp_cond_true ((fr_eval rfl).trans k13_13) ?_
 refine wp_skip ?_
 refine hK15 _ _ ?_
 refine wp_seq_k fun K17 hK17 => ?_
 refine wp_block ?_
 refine wp_seq_k fun K18 hK18 => ?_
 refine region_dk 5 [(14, 0), (15, 1), (16, 2), (4, 3), (5, 4)] [[], [], [1], [0, 1, 2], [0, 1, 2, 3]] (rel [is (.int .i64 1),
   is (.pointer (some ⟨tx, ux + 1, none⟩)),
   is (.int .i64 ((pa1 : Int))),
   is (.int .i64 1),
   is (.int .i64 ((pa1 : Int)))])
  ⟨is_k, is_k, is_k, is_k, is_k, trivial⟩
  ⟨fun f s W hW c j k m a => opv rfl rfl (by simp [go_sem, a.e 12 k13_12]) rfl,
  fun f s W hW c j k m a => opv rfl rfl (by simp [go_sem, a.e 10 k13_10, a.e 12 k13_12]) rfl,
  fun f s W hW c j k m a => by have p := below_trans fB13 hW; have cu : W.cell? ⟨tx, ux + 1, none⟩ = some (.int .i64 (pa1 : Int)) := ii_cell (hX.below p (Nat.le_refl _)) 1 (by simp); exact opv rfl rfl (by simp [go_sem, a.e 15 (c 1 rfl), cu]) rfl,
  fun f s W hW c j k m a => opv rfl rfl (by simp [go_sem, a.e 14 (c 0 rfl)]) rfl,
  fun f s W hW c j k m a => opv rfl rfl (by simp [go_sem, a.e 16 (c 2 rfl)]) rfl, trivial⟩ ?_
 intro f14 s14 W14 hB14 g14 hg14
 have fB14 := hB14.f fB13
 have z14 := hB14.below.size
 have b14_0 := hB14.b b13_0
 have q24' := (hJb 1 _ _ q23' hB14.below)
 refine hK18 _ _ ?_
 have k14_1 := kt hg14 1 k13_1
 have k14_2 := kt hg14 2 k13_2
 have k14_10 := kt hg14 10 k13_10
 have k14_11 := kt hg14 11 k13_11
 have k14_6 := kt hg14 6 k13_6
 have k14_21 := kt hg14 21 k13_21
 have k14_41 := kt hg14 41 k13_41
 have k14_42 := kt hg14 42 k13_42
 have k14_43 := kt hg14 43 k13_43
 have k14_44 := kt hg14 44 k13_44
 have k14_45 := kt hg14 45 k13_45
 have k14_12 := kt hg14 12 k13_12
 have k14_13 := kt hg14 13 k13_13
 have k14_4 := kt hg14 4 (hB14.is 3)
 have k14_5 := kt hg14 5 (hB14.is 4)
 refine wp_seq_k fun K19 hK19 => ?_
 refine region_dk 3 [(17, 0), (18, 1), (6, 2)] [[], [0], [0, 1]] (rel [is (.pointer (some ⟨(s1 0), 4, none⟩)),
   is (.int .i64 wh),
   is (.int .i64 wh)])
  ⟨is_k, is_k, is_k, trivial⟩
  ⟨fun f s W hW c j k m a => opv rfl rfl (by simp [go_sem, a.e 2 k14_2]) rfl,
  fun f s W hW c j k m a => opv rfl rfl (by simp [go_sem, a.e 17 (c 0 rfl), cb b14_0 hW 4]) rfl,
  fun f s W hW c j k m a => opv rfl rfl (by simp [go_sem, a.e 18 (c 1 rfl)]) rfl, trivial⟩ ?_
 intro f15 s15 W15 hB15 g15 hg15
 have fB15 := hB15.f fB14
 have z15 := hB15.below.size
 have b15_0 := hB15.b b14_0
 have q25' := (hJb 1 _ _ q24' hB15.below)
 refine hK19 _ _ ?_
 have k15_1 := kt hg15 1 k14_1
 have k15_2 := kt hg15 2 k14_2
 have k15_10 := kt hg15 10 k14_10
 have k15_11 := kt hg15 11 k14_11
 have k15_21 := kt hg15 21 k14_21
 have k15_41 := kt hg15 41 k14_41
 have k15_42 := kt hg15 42 k14_42
 have k15_43 := kt hg15 43 k14_43
 have k15_44 := kt hg15 44 k14_44
 have k15_45 := kt hg15 45 k14_45
 have k15_12 := kt hg15 12 k14_12
 have k15_13 := kt hg15 13 k14_13
 have k15_4 := kt hg15 4 k14_4
 have k15_5 := kt hg15 5 k14_5
 have k15_6 := kt hg15 6 (hB15.is 2)
 refine wp_seq_k fun K20 hK20 => ?_
 refine wp_seq_k fun K21 hK21 => ?_
 refine region_dk 3 [(19, 0), (20, 1), (21, 2)] [[], [0], [0, 1]] (rel [is (.int .i64 1),
   is (.int .i64 1),
   is (.bool true)])
  ⟨is_k, is_k, is_k, trivial⟩
  ⟨fun f s W hW c j k m a => opv rfl rfl (by simp [go_sem, a.e 4 k15_4]) rfl,
  fun f s W hW c j k m a => by have qw_ := IntWalk.i64_in (1) (by decide); exact opv rfl rfl (by simp [go_sem, a.e 19 (c 0 rfl), qw_]) rfl,
  fun f s W hW c j k m a => opv rfl rfl (by simp [go_sem, a.e 20 (c 1 rfl)]) rfl, trivial⟩ ?_
 intro f16 s16 W16 hB16 g16 hg16
 have fB16 := hB16.f fB15
 have z16 := hB16.below.size
 have b16_0 := hB16.b b15_0
 have q26' := (hJb 1 _ _ q25' hB16.below)
 refine hK21 _ _ ?_
 have k16_1 := kt hg16 1 k15_1
 have k16_2 := kt hg16 2 k15_2
 have k16_10 := kt hg16 10 k15_10
 have k16_11 := kt hg16 11 k15_11
 have k16_41 := kt hg16 41 k15_41
 have k16_42 := kt hg16 42 k15_42
 have k16_43 := kt hg16 43 k15_43
 have k16_44 := kt hg16 44 k15_44
 have k16_45 := kt hg16 45 k15_45
 have k16_12 := kt hg16 12 k15_12
 have k16_13 := kt hg16 13 k15_13
 have k16_4 := kt hg16 4 k15_4
 have k16_5 := kt hg16 5 k15_5
 have k16_6 := kt hg16 6 k15_6
 have k16_21 := kt hg16 21 (hB16.is 2)
 refine wp_cond_true ((fr_eval rfl).trans k16_21) ?_
 refine wp_seq_k fun K23 hK23 => ?_
 refine region_doL (LeT (W16.heap.size) 70 (justC (#[.int .i64 FA0.pitch, .int .i64 FA0.draw, .int .i64 FA0.h1, .int .i64 FA0.h2]))) LeT.refl (LeT.drew justC_b) LeT.trans (fun _ _ h => h.size) 14 [(22, 0), (23, 1), (24, 2), (25, 3), (26, 4), (27, 5), (28, 6), (29, 7), (30, 8), (31, 9), (32, 10), (33, 11), (7, 12)] [[], [0], [0, 1], [], [3], [3, 4], [], [6], [3, 4, 5, 6, 7], [3, 4, 5, 6, 7, 8], [0, 1, 2, 3, 4, 5, 6, 7, 8, 9], [0, 1, 2, 3, 4, 5, 6, 7, 8, 9, 10], [], [0, 1, 2, 3, 4, 5, 6, 7, 8, 9, 10, 11, 12]] (rel [is (.pointer (some ⟨(s1 0), 2, none⟩)),
   is (.pointer (some ⟨(s1 0), 3, none⟩)),
   is (.slice (some ⟨bq, oq, none⟩) (nq) (cq)),
   is (.pointer (some ⟨(s1 0), 0, none⟩)),
   is (.pointer (some ⟨(s1 0), 1, none⟩)),
   is (.slice (some ⟨tf, uf, none⟩) (1) (cf)),
   is (.int .i64 1),
   is (.int .i64 0),
   is (.pointer (some ⟨tf, uf, none⟩)),
   is (.int .i64 ((fa0 : Int))),
   is (.pointer (some ⟨bq, oq + fa0 * 4, none⟩)),
   is (.agg #[.int .i64 FA0.pitch, .int .i64 FA0.draw, .int .i64 FA0.h1, .int .i64 FA0.h2]),
   boxT (W16.heap.size) 70 4 12,
   stoT (W16.heap.size) 70 (justC (#[.int .i64 FA0.pitch, .int .i64 FA0.draw, .int .i64 FA0.h1, .int .i64 FA0.h2])) 12]) (by kernel_rfl) (by kernel_rfl) (by kernel_rfl) (by kernel_rfl)
  ⟨is_kl, is_kl, is_kl, is_kl, is_kl, is_kl, is_kl, is_kl, is_kl, is_kl, is_kl, is_kl, boxT_k, stoT_k (by simp), trivial⟩
  ⟨fun f s W hT c j k m a => by have hW := LeT.below hT (Nat.le_refl _); exact OpDo.l (LeT.of_below justC_b) (opv rfl rfl (by simp [go_sem, a.e 2 k16_2]) rfl),
  fun f s W hT c j k m a => by have hW := LeT.below hT (Nat.le_refl _); exact OpDo.l (LeT.of_below justC_b) (opv rfl rfl (by simp [go_sem, a.e 22 (c 0 rfl)]) rfl),
  fun f s W hT c j k m a => by have hW := LeT.below hT (Nat.le_refl _); exact OpDo.l (LeT.of_below justC_b) (opv rfl rfl (by simp [go_sem, a.e 23 (c 1 rfl), cb b16_0 hW 3]) rfl),
  fun f s W hT c j k m a => by have hW := LeT.below hT (Nat.le_refl _); exact OpDo.l (LeT.of_below justC_b) (opv rfl rfl (by simp [go_sem, a.e 2 k16_2]) rfl),
  fun f s W hT c j k m a => by have hW := LeT.below hT (Nat.le_refl _); exact OpDo.l (LeT.of_below justC_b) (opv rfl rfl (by simp [go_sem, a.e 25 (c 3 rfl)]) rfl),
  fun f s W hT c j k m a => by have hW := LeT.below hT (Nat.le_refl _); exact OpDo.l (LeT.of_below justC_b) (opv rfl rfl (by simp [go_sem, a.e 26 (c 4 rfl), cb b16_0 hW 1]) rfl),
  fun f s W hT c j k m a => by have hW := LeT.below hT (Nat.le_refl _); exact OpDo.l (LeT.of_below justC_b) (opv rfl rfl (by simp [go_sem, a.e 4 k16_4]) rfl),
  fun f s W hT c j k m a => by have hW := LeT.below hT (Nat.le_refl _); exact OpDo.l (LeT.of_below justC_b) (by have qw_ := IntWalk.i64_in (0) (by decide); exact opv rfl rfl (by simp [go_sem, a.e 28 (c 6 rfl), qw_]) rfl),
  fun f s W hT c j k m a => by have hW := LeT.below hT (Nat.le_refl _); exact OpDo.l (LeT.of_below justC_b) (opv rfl rfl (by simp [go_sem, a.e 27 (c 5 rfl), a.e 29 (c 7 rfl)]) rfl),
  fun f s W hT c j k m a => by have hW := LeT.below hT (Nat.le_refl _); exact OpDo.l (LeT.of_below justC_b) (by have p := below_trans fB16 hW; have cu : W.cell? ⟨tf, uf, none⟩ = some (.int .i64 (fa0 : Int)) := ii_cell (hF.below p (Nat.le_refl _)) 0 (by simp); exact opv rfl rfl (by simp [go_sem, a.e 30 (c 8 rfl), cu]) rfl),
  fun f s W hT c j k m a => by have hW := LeT.below hT (Nat.le_refl _); exact OpDo.l (LeT.of_below justC_b) (by have li_ := Nat.not_le.2 hfa0; have lz_ : (fa0 : Int) < (nq : Int) := (by omega); exact opv rfl rfl (by simp [go_sem, a.e 24 (c 2 rfl), a.e 31 (c 9 rfl), li_, hfa0, lz_]) rfl),
  fun f s W hT c j k m a => by have hW := LeT.below hT (Nat.le_refl _); exact OpDo.l (LeT.of_below justC_b) (by have p := below_trans fB16 hW; have E_ := (hQ.below p).2 fa0 hfa0; rw [efa0] at E_; obtain ⟨u0_, u1_, u2_, u3_⟩ := E_; have v0_ : W.cell? ⟨bq, oq + fa0 * 4, none⟩ = some (.int .i64 FA0.pitch) := u0_; have v1_ : W.cell? ⟨bq, oq + fa0 * 4 + 1, none⟩ = some (.int .i64 FA0.draw) := u1_; have v2_ : W.cell? ⟨bq, oq + fa0 * 4 + 2, none⟩ = some (.int .i64 FA0.h1) := u2_; have v3_ : W.cell? ⟨bq, oq + fa0 * 4 + 3, none⟩ = some (.int .i64 FA0.h2) := u3_; exact opv rfl rfl (by simp [go_sem, a.e 32 (c 10 rfl), v0_, v1_, v2_, v3_]) rfl),
  fun f s W hT c j k m a => opT (cs := #[.int .i64 0, .int .i64 0, .int .i64 0, .int .i64 0]) justC_b (hT.size) rfl rfl (by simp [go_sem]) rfl,
  fun f s W hT c j k m a => by exact stoT_do (#[.int .i64 FA0.pitch, .int .i64 FA0.draw, .int .i64 FA0.h1, .int .i64 FA0.h2]) rfl (by decide) (c 12 rfl) (a.v 7 (c 12 rfl).1) (a.v 33 (c 11 rfl)) rfl rfl (by rfl) (by rfl) ((rfl : justC (#[.int .i64 FA0.pitch, .int .i64 FA0.draw, .int .i64 FA0.h1, .int .i64 FA0.h2]) (#[.int .i64 FA0.pitch, .int .i64 FA0.draw, .int .i64 FA0.h1, .int .i64 FA0.h2]) W)) (fun _ _ _ h => h) (fun _ _ _ _ _ h => h), trivial⟩ ?_
 intro f17 s17 W17 hB17
 have hb17 := LeT.below hB17.le (Nat.le_refl _)
 have fB17 := below_trans fB16 hb17
 have z17 : W16.heap.size ≤ W17.heap.size := hb17.size
 have b17_0 := blk_below b16_0 hb17
 have q27' := (hJb 1 _ _ q26' hb17)
 obtain ⟨r17_12, lb17, -⟩ := hB17.is 12
 obtain ⟨-, cs17, bs17, hG17⟩ := hB17.is 13
 have hG17' : cs17 = #[.int .i64 FA0.pitch, .int .i64 FA0.draw, .int .i64 FA0.h1, .int .i64 FA0.h2] := hG17
 subst hG17'
 have lr17_12 : W16.heap.size ≤ s17 12 ∧ s17 12 < W17.heap.size := ⟨lb17, lt_of_blk bs17⟩
 generalize hg17 : ov [(22, 0), (23, 1), (24, 2), (25, 3), (26, 4), (27, 5), (28, 6), (29, 7), (30, 8), (31, 9), (32, 10), (33, 11), (7, 12)] f17 g16 = g17
 have k17_1 := kt hg17 1 k16_1
 have k17_2 := kt hg17 2 k16_2
 have k17_10 := kt hg17 10 k16_10
 have k17_11 := kt hg17 11 k16_11
 have k17_41 := kt hg17 41 k16_41
 have k17_42 := kt hg17 42 k16_42
 have k17_43 := kt hg17 43 k16_43
 have k17_44 := kt hg17 44 k16_44
 have k17_45 := kt hg17 45 k16_45
 have k17_12 := kt hg17 12 k16_12
 have k17_13 := kt hg17 13 k16_13
 have k17_4 := kt hg17 4 k16_4
 have k17_5 := kt hg17 5 k16_5
 have k17_6 := kt hg17 6 k16_6
 have k17_21 := kt hg17 21 k16_21
 have k17_7 := kt hg17 7 r17_12
 refine wpOps_end ?_
 refine hK23 _ _ ?_
 refine region_dk 8 [(34, 0), (35, 1), (36, 2), (37, 3), (38, 4), (39, 5), (40, 6), (6, 7)] [[], [], [1], [0, 1, 2], [], [4], [0, 1, 2, 3, 4, 5], [0, 1, 2, 3, 4, 5, 6]] (rel [is (.int .i64 wh),
   is (.pointer (some ⟨(s17 12), 0, none⟩)),
   is (.int .i64 FA0.pitch),
   is (.int .i64 qv0),
   is (.pointer (some ⟨(s17 12), 1, none⟩)),
   is (.int .i64 FA0.draw),
   is (.int .i64 (qv0 * FA0.draw)),
   is (.int .i64 (qv0 * FA0.draw))])
  ⟨is_k, is_k, is_k, is_k, is_k, is_k, is_k, is_k, trivial⟩
  ⟨fun f s W hW c j k m a => opv rfl rfl (by simp [go_sem, a.e 6 ((k 7 6 rfl rfl).trans k17_6)]) rfl,
  fun f s W hW c j k m a => opv rfl rfl (by simp [go_sem, a.e 7 k17_7]) rfl,
  fun f s W hW c j k m a => opv rfl rfl (by simp [go_sem, a.e 35 (c 1 rfl), cb bs17 hW 0]) rfl,
  fun f s W hW c j k m a => by have qu_ : (wh).tdiv FA0.pitch = qv0 := (Int.tdiv_eq_ediv_of_nonneg (by omega)).trans hqv0; have qw_ := IntWalk.i64_in (qv0) (by omega); have qz_ : ¬ FA0.pitch = 0 := (by omega); exact opv rfl rfl (by simp [go_sem, a.e 34 (c 0 rfl), a.e 36 (c 2 rfl), qu_, qw_, qz_]) rfl,
  fun f s W hW c j k m a => opv rfl rfl (by simp [go_sem, a.e 7 k17_7]) rfl,
  fun f s W hW c j k m a => opv rfl rfl (by simp [go_sem, a.e 38 (c 4 rfl), cb bs17 hW 1]) rfl,
  fun f s W hW c j k m a => opv rfl rfl (by simp [go_sem, a.e 37 (c 3 rfl), a.e 39 (c 5 rfl), IntWalk.i64_in (qv0 * FA0.draw) (by omega)]) rfl,
  fun f s W hW c j k m a => opv rfl rfl (by simp [go_sem, a.e 40 (c 6 rfl)]) rfl, trivial⟩ ?_
 intro f18 s18 W18 hB18 g18 hg18
 have fB18 := hB18.f fB17
 have z18 := hB18.below.size
 have b18_0 := hB18.b b17_0
 have b18_1 := hB18.b bs17
 have q28' := (hJb 1 _ _ q27' hB18.below)
 refine hK20 _ _ ?_
 have k18_1 := kt hg18 1 k17_1
 have k18_2 := kt hg18 2 k17_2
 have k18_10 := kt hg18 10 k17_10
 have k18_11 := kt hg18 11 k17_11
 have k18_41 := kt hg18 41 k17_41
 have k18_42 := kt hg18 42 k17_42
 have k18_43 := kt hg18 43 k17_43
 have k18_44 := kt hg18 44 k17_44
 have k18_45 := kt hg18 45 k17_45
 have k18_12 := kt hg18 12 k17_12
 have k18_13 := kt hg18 13 k17_13
 have k18_4 := kt hg18 4 k17_4
 have k18_5 := kt hg18 5 k17_5
 have k18_21 := kt hg18 21 k17_21
 have k18_7 := kt hg18 7 k17_7
 have k18_6 := kt hg18 6 (hB18.is 7)
 refine wp_seq_k fun K24 hK24 => ?_
 refine (wpIn_wide (n := 8)).1 (wpIn_region ?_)
 show wpOpsIn _ _ _ _ _ [0, 1, 2, 3, 4] _ _
 refine in_value (o := _) rfl rfl rfl (v := .func (.yield l) #[] #[]) (by simp [go_sem, frv 47 k18_1]) ?_
 generalize hg19 : upd g18 41 (.func (.yield l) #[] #[]) = g19
 have k19_1 := ku hg19 1 k18_1
 have k19_2 := ku hg19 2 k18_2
 have k19_10 := ku hg19 10 k18_10
 have k19_11 := ku hg19 11 k18_11
 have k19_42 := ku hg19 42 k18_42
 have k19_43 := ku hg19 43 k18_43
 have k19_44 := ku hg19 44 k18_44
 have k19_45 := ku hg19 45 k18_45
 have k19_12 := ku hg19 12 k18_12
 have k19_13 := ku hg19 13 k18_13
 have k19_4 := ku hg19 4 k18_4
 have k19_5 := ku hg19 5 k18_5
 have k19_21 := ku hg19 21 k18_21
 have k19_7 := ku hg19 7 k18_7
 have k19_6 := ku hg19 6 k18_6
 have k19_41 := kt hg19 41 (upd_same _ _ _)
 refine in_value (o := _) rfl rfl rfl (v := .int .i64 ((pa1 : Int))) (by simp [go_sem, frv 47 k19_5]) ?_
 generalize hg20 : upd g19 42 (.int .i64 ((pa1 : Int))) = g20
 have k20_1 := ku hg20 1 k19_1
 have k20_2 := ku hg20 2 k19_2
 have k20_10 := ku hg20 10 k19_10
 have k20_11 := ku hg20 11 k19_11
 have k20_43 := ku hg20 43 k19_43
 have k20_44 := ku hg20 44 k19_44
 have k20_45 := ku hg20 45 k19_45
 have k20_12 := ku hg20 12 k19_12
 have k20_13 := ku hg20 13 k19_13
 have k20_4 := ku hg20 4 k19_4
 have k20_5 := ku hg20 5 k19_5
 have k20_21 := ku hg20 21 k19_21
 have k20_7 := ku hg20 7 k19_7
 have k20_6 := ku hg20 6 k19_6
 have k20_41 := ku hg20 41 k19_41
 have k20_42 := kt hg20 42 (upd_same _ _ _)
 refine in_value (o := _) rfl rfl rfl (v := .int .i64 (qv0 * FA0.draw)) (by simp [go_sem, frv 47 k20_6]) ?_
 generalize hg21 : upd g20 43 (.int .i64 (qv0 * FA0.draw)) = g21
 have k21_1 := ku hg21 1 k20_1
 have k21_2 := ku hg21 2 k20_2
 have k21_10 := ku hg21 10 k20_10
 have k21_11 := ku hg21 11 k20_11
 have k21_44 := ku hg21 44 k20_44
 have k21_45 := ku hg21 45 k20_45
 have k21_12 := ku hg21 12 k20_12
 have k21_13 := ku hg21 13 k20_13
 have k21_4 := ku hg21 4 k20_4
 have k21_5 := ku hg21 5 k20_5
 have k21_21 := ku hg21 21 k20_21
 have k21_7 := ku hg21 7 k20_7
 have k21_6 := ku hg21 6 k20_6
 have k21_41 := ku hg21 41 k20_41
 have k21_42 := ku hg21 42 k20_42
 have k21_43 := kt hg21 43 (upd_same _ _ _)
 refine in_round (o := _) (d := 44) rfl rfl rfl (l := l) (args := #[.int .i64 ((pa1 : Int)), .int .i64 (qv0 * FA0.draw)]) (by simp [go_sem, frv 47 k21_41, frv 47 k21_42, frv 47 k21_43]) (hY1 W18 q28') ?_ (fun _ h => nomatch h.1) (fun _ _ h => nomatch h.1)
 rintro v_ W22 ⟨rv22, jj22, kx22⟩
 obtain rfl := Ending.returned.inj rv22
 have fB22 := Below.trans fB18 (kx22.below hbw (fB18).size)
 have z22 := kx22.size
 have b22_0 := kx22.block _ _ (by omega) b18_0
 have b22_1 := kx22.block _ _ (by omega) b18_1
 generalize hg22 : upd g21 44 (.bool true) = g22
 have k22_1 := ku hg22 1 k21_1
 have k22_2 := ku hg22 2 k21_2
 have k22_10 := ku hg22 10 k21_10
 have k22_11 := ku hg22 11 k21_11
 have k22_45 := ku hg22 45 k21_45
 have k22_12 := ku hg22 12 k21_12
 have k22_13 := ku hg22 13 k21_13
 have k22_4 := ku hg22 4 k21_4
 have k22_5 := ku hg22 5 k21_5
 have k22_21 := ku hg22 21 k21_21
 have k22_7 := ku hg22 7 k21_7
 have k22_6 := ku hg22 6 k21_6
 have k22_41 := ku hg22 41 k21_41
 have k22_42 := ku hg22 42 k21_42
 have k22_43 := ku hg22 43 k21_43
 have k22_44 := kt hg22 44 (upd_same _ _ _)
 refine in_value (o := _) rfl rfl rfl (v := .bool false) (by simp [go_sem, frv 47 k22_44]) ?_
 generalize hg23 : upd g22 45 (.bool false) = g23
 have k23_1 := ku hg23 1 k22_1
 have k23_2 := ku hg23 2 k22_2
 have k23_10 := ku hg23 10 k22_10
 have k23_11 := ku hg23 11 k22_11
 have k23_12 := ku hg23 12 k22_12
 have k23_13 := ku hg23 13 k22_13
 have k23_4 := ku hg23 4 k22_4
 have k23_5 := ku hg23 5 k22_5
 have k23_21 := ku hg23 21 k22_21
 have k23_7 := ku hg23 7 k22_7
 have k23_6 := ku hg23 6 k22_6
 have k23_41 := ku hg23 41 k22_41
 have k23_42 := ku hg23 42 k22_42
 have k23_43 := ku hg23 43 k22_43
 have k23_44 := ku hg23 44 k22_44
 have k23_45 := kt hg23 45 (upd_same _ _ _)
 refine hK24 _ _ ?_
 refine wp_cond_false ((fr_eval rfl).trans k23_45) ?_
 refine wp_skip ?_
 refine inBlock_normal ?_
 refine hK17 _ _ ?_
 refine region_dk 2 [(46, 0), (12, 1)] [[], [0]] (rel [is (.int .i64 2),
   is (.int .i64 2)])
  ⟨is_k, is_k, trivial⟩
  ⟨fun f s W hW c j k m a => opv rfl rfl (by simp [go_sem, a.e 12 ((k 1 12 rfl rfl).trans k23_12), IntWalk.i64_in (2) (by omega)]) rfl,
  fun f s W hW c j k m a => opv rfl rfl (by simp [go_sem, a.e 46 (c 0 rfl)]) rfl, trivial⟩ ?_
 intro f24 s24 W24 hB24 g24 hg24
 have fB24 := hB24.f fB22
 have z24 := hB24.below.size
 have b24_0 := hB24.b b22_0
 have b24_1 := hB24.b b22_1
 have q29' := (hJb 2 _ _ jj22 hB24.below)
 refine wpOps_end ?_
 have k24_1 := kt hg24 1 k23_1
 have k24_2 := kt hg24 2 k23_2
 have k24_10 := kt hg24 10 k23_10
 have k24_11 := kt hg24 11 k23_11
 have k24_13 := kt hg24 13 k23_13
 have k24_4 := kt hg24 4 k23_4
 have k24_5 := kt hg24 5 k23_5
 have k24_21 := kt hg24 21 k23_21
 have k24_7 := kt hg24 7 k23_7
 have k24_6 := kt hg24 6 k23_6
 have k24_41 := kt hg24 41 k23_41
 have k24_42 := kt hg24 42 k23_42
 have k24_43 := kt hg24 43 k23_43
 have k24_44 := kt hg24 44 k23_44
 have k24_45 := kt hg24 45 k23_45
 have k24_12 := kt hg24 12 (hB24.is 1)
 refine then_normal ?_
 rw [rounds_succ]
 refine wp_seq_k fun K26 hK26 => ?_
 refine region_dk 1 [(13, 0)] [[]] (rel [is (.bool true)])
  ⟨is_k, trivial⟩
  ⟨fun f s W hW c j k m a => opv rfl rfl (by simp [go_sem, a.e 12 k24_12, a.e 11 k24_11]) rfl, trivial⟩ ?_
 intro f25 s25 W25 hB25 g25 hg25
 have fB25 := hB25.f fB24
 have z25 := hB25.below.size
 have b25_0 := hB25.b b24_0
 have b25_1 := hB25.b b24_1
 have q30' := (hJb 2 _ _ q29' hB25.below)
 refine hK26 _ _ ?_
 have k25_1 := kt hg25 1 k24_1
 have k25_2 := kt hg25 2 k24_2
 have k25_10 := kt hg25 10 k24_10
 have k25_11 := kt hg25 11 k24_11
 have k25_4 := kt hg25 4 k24_4
 have k25_5 := kt hg25 5 k24_5
 have k25_21 := kt hg25 21 k24_21
 have k25_7 := kt hg25 7 k24_7
 have k25_6 := kt hg25 6 k24_6
 have k25_41 := kt hg25 41 k24_41
 have k25_42 := kt hg25 42 k24_42
 have k25_43 := kt hg25 43 k24_43
 have k25_44 := kt hg25 44 k24_44
 have k25_45 := kt hg25 45 k24_45
 have k25_12 := kt hg25 12 k24_12
 have k25_13 := kt hg25 13 (hB25.is 0)
 refine wp_seq_k fun K27 hK27 => ?_
 refine wp_cond_true ((fr_eval rfl).trans k25_13) ?_
 refine wp_skip ?_
 refine hK27 _ _ ?_
 refine wp_seq_k fun K29 hK29 => ?_
 refine wp_block ?_
 refine wp_seq_k fun K30 hK30 => ?_
 refine region_dk 5 [(14, 0), (15, 1), (16, 2), (4, 3), (5, 4)] [[], [], [1], [0, 1, 2], [0, 1, 2, 3]] (rel [is (.int .i64 2),
   is (.pointer (some ⟨tx, ux + 2, none⟩)),
   is (.int .i64 ((pa2 : Int))),
   is (.int .i64 2),
   is (.int .i64 ((pa2 : Int)))])
  ⟨is_k, is_k, is_k, is_k, is_k, trivial⟩
  ⟨fun f s W hW c j k m a => opv rfl rfl (by simp [go_sem, a.e 12 k25_12]) rfl,
  fun f s W hW c j k m a => opv rfl rfl (by simp [go_sem, a.e 10 k25_10, a.e 12 k25_12]) rfl,
  fun f s W hW c j k m a => by have p := below_trans fB25 hW; have cu : W.cell? ⟨tx, ux + 2, none⟩ = some (.int .i64 (pa2 : Int)) := ii_cell (hX.below p (Nat.le_refl _)) 2 (by simp); exact opv rfl rfl (by simp [go_sem, a.e 15 (c 1 rfl), cu]) rfl,
  fun f s W hW c j k m a => opv rfl rfl (by simp [go_sem, a.e 14 (c 0 rfl)]) rfl,
  fun f s W hW c j k m a => opv rfl rfl (by simp [go_sem, a.e 16 (c 2 rfl)]) rfl, trivial⟩ ?_
 intro f26 s26 W26 hB26 g26 hg26
 have fB26 := hB26.f fB25
 have z26 := hB26.below.size
 have b26_0 := hB26.b b25_0
 have b26_1 := hB26.b b25_1
 have q31' := (hJb 2 _ _ q30' hB26.below)
 refine hK30 _ _ ?_
 have k26_1 := kt hg26 1 k25_1
 have k26_2 := kt hg26 2 k25_2
 have k26_10 := kt hg26 10 k25_10
 have k26_11 := kt hg26 11 k25_11
 have k26_21 := kt hg26 21 k25_21
 have k26_7 := kt hg26 7 k25_7
 have k26_6 := kt hg26 6 k25_6
 have k26_41 := kt hg26 41 k25_41
 have k26_42 := kt hg26 42 k25_42
 have k26_43 := kt hg26 43 k25_43
 have k26_44 := kt hg26 44 k25_44
 have k26_45 := kt hg26 45 k25_45
 have k26_12 := kt hg26 12 k25_12
 have k26_13 := kt hg26 13 k25_13
 have k26_4 := kt hg26 4 (hB26.is 3)
 have k26_5 := kt hg26 5 (hB26.is 4)
 refine wp_seq_k fun K31 hK31 => ?_
 refine region_dk 3 [(17, 0), (18, 1), (6, 2)] [[], [0], [0, 1]] (rel [is (.pointer (some ⟨(s1 0), 4, none⟩)),
   is (.int .i64 wh),
   is (.int .i64 wh)])
  ⟨is_k, is_k, is_k, trivial⟩
  ⟨fun f s W hW c j k m a => opv rfl rfl (by simp [go_sem, a.e 2 k26_2]) rfl,
  fun f s W hW c j k m a => opv rfl rfl (by simp [go_sem, a.e 17 (c 0 rfl), cb b26_0 hW 4]) rfl,
  fun f s W hW c j k m a => opv rfl rfl (by simp [go_sem, a.e 18 (c 1 rfl)]) rfl, trivial⟩ ?_
 intro f27 s27 W27 hB27 g27 hg27
 have fB27 := hB27.f fB26
 have z27 := hB27.below.size
 have b27_0 := hB27.b b26_0
 have b27_1 := hB27.b b26_1
 have q32' := (hJb 2 _ _ q31' hB27.below)
 refine hK31 _ _ ?_
 have k27_1 := kt hg27 1 k26_1
 have k27_2 := kt hg27 2 k26_2
 have k27_10 := kt hg27 10 k26_10
 have k27_11 := kt hg27 11 k26_11
 have k27_21 := kt hg27 21 k26_21
 have k27_7 := kt hg27 7 k26_7
 have k27_41 := kt hg27 41 k26_41
 have k27_42 := kt hg27 42 k26_42
 have k27_43 := kt hg27 43 k26_43
 have k27_44 := kt hg27 44 k26_44
 have k27_45 := kt hg27 45 k26_45
 have k27_12 := kt hg27 12 k26_12
 have k27_13 := kt hg27 13 k26_13
 have k27_4 := kt hg27 4 k26_4
 have k27_5 := kt hg27 5 k26_5
 have k27_6 := kt hg27 6 (hB27.is 2)
 refine wp_seq_k fun K32 hK32 => ?_
 refine wp_seq_k fun K33 hK33 => ?_
 refine region_dk 3 [(19, 0), (20, 1), (21, 2)] [[], [0], [0, 1]] (rel [is (.int .i64 2),
   is (.int .i64 0),
   is (.bool false)])
  ⟨is_k, is_k, is_k, trivial⟩
  ⟨fun f s W hW c j k m a => opv rfl rfl (by simp [go_sem, a.e 4 k27_4]) rfl,
  fun f s W hW c j k m a => by have qw_ := IntWalk.i64_in (0) (by decide); exact opv rfl rfl (by simp [go_sem, a.e 19 (c 0 rfl), qw_]) rfl,
  fun f s W hW c j k m a => opv rfl rfl (by simp [go_sem, a.e 20 (c 1 rfl)]) rfl, trivial⟩ ?_
 intro f28 s28 W28 hB28 g28 hg28
 have fB28 := hB28.f fB27
 have z28 := hB28.below.size
 have b28_0 := hB28.b b27_0
 have b28_1 := hB28.b b27_1
 have q33' := (hJb 2 _ _ q32' hB28.below)
 refine hK33 _ _ ?_
 have k28_1 := kt hg28 1 k27_1
 have k28_2 := kt hg28 2 k27_2
 have k28_10 := kt hg28 10 k27_10
 have k28_11 := kt hg28 11 k27_11
 have k28_7 := kt hg28 7 k27_7
 have k28_41 := kt hg28 41 k27_41
 have k28_42 := kt hg28 42 k27_42
 have k28_43 := kt hg28 43 k27_43
 have k28_44 := kt hg28 44 k27_44
 have k28_45 := kt hg28 45 k27_45
 have k28_12 := kt hg28 12 k27_12
 have k28_13 := kt hg28 13 k27_13
 have k28_4 := kt hg28 4 k27_4
 have k28_5 := kt hg28 5 k27_5
 have k28_6 := kt hg28 6 k27_6
 have k28_21 := kt hg28 21 (hB28.is 2)
 refine wp_cond_false ((fr_eval rfl).trans k28_21) ?_
 refine wp_skip ?_
 refine hK32 _ _ ?_
 refine wp_seq_k fun K35 hK35 => ?_
 refine (wpIn_wide (n := 8)).1 (wpIn_region ?_)
 show wpOpsIn _ _ _ _ _ [0, 1, 2, 3, 4] _ _
 refine in_value (o := _) rfl rfl rfl (v := .func (.yield l) #[] #[]) (by simp [go_sem, frv 47 k28_1]) ?_
 generalize hg29 : upd g28 41 (.func (.yield l) #[] #[]) = g29
 have k29_1 := ku hg29 1 k28_1
 have k29_2 := ku hg29 2 k28_2
 have k29_10 := ku hg29 10 k28_10
 have k29_11 := ku hg29 11 k28_11
 have k29_7 := ku hg29 7 k28_7
 have k29_42 := ku hg29 42 k28_42
 have k29_43 := ku hg29 43 k28_43
 have k29_44 := ku hg29 44 k28_44
 have k29_45 := ku hg29 45 k28_45
 have k29_12 := ku hg29 12 k28_12
 have k29_13 := ku hg29 13 k28_13
 have k29_4 := ku hg29 4 k28_4
 have k29_5 := ku hg29 5 k28_5
 have k29_6 := ku hg29 6 k28_6
 have k29_21 := ku hg29 21 k28_21
 have k29_41 := kt hg29 41 (upd_same _ _ _)
 refine in_value (o := _) rfl rfl rfl (v := .int .i64 ((pa2 : Int))) (by simp [go_sem, frv 47 k29_5]) ?_
 generalize hg30 : upd g29 42 (.int .i64 ((pa2 : Int))) = g30
 have k30_1 := ku hg30 1 k29_1
 have k30_2 := ku hg30 2 k29_2
 have k30_10 := ku hg30 10 k29_10
 have k30_11 := ku hg30 11 k29_11
 have k30_7 := ku hg30 7 k29_7
 have k30_43 := ku hg30 43 k29_43
 have k30_44 := ku hg30 44 k29_44
 have k30_45 := ku hg30 45 k29_45
 have k30_12 := ku hg30 12 k29_12
 have k30_13 := ku hg30 13 k29_13
 have k30_4 := ku hg30 4 k29_4
 have k30_5 := ku hg30 5 k29_5
 have k30_6 := ku hg30 6 k29_6
 have k30_21 := ku hg30 21 k29_21
 have k30_41 := ku hg30 41 k29_41
 have k30_42 := kt hg30 42 (upd_same _ _ _)
 refine in_value (o := _) rfl rfl rfl (v := .int .i64 wh) (by simp [go_sem, frv 47 k30_6]) ?_
 generalize hg31 : upd g30 43 (.int .i64 wh) = g31
 have k31_1 := ku hg31 1 k30_1
 have k31_2 := ku hg31 2 k30_2
 have k31_10 := ku hg31 10 k30_10
 have k31_11 := ku hg31 11 k30_11
 have k31_7 := ku hg31 7 k30_7
 have k31_44 := ku hg31 44 k30_44
 have k31_45 := ku hg31 45 k30_45
 have k31_12 := ku hg31 12 k30_12
 have k31_13 := ku hg31 13 k30_13
 have k31_4 := ku hg31 4 k30_4
 have k31_5 := ku hg31 5 k30_5
 have k31_6 := ku hg31 6 k30_6
 have k31_21 := ku hg31 21 k30_21
 have k31_41 := ku hg31 41 k30_41
 have k31_42 := ku hg31 42 k30_42
 have k31_43 := kt hg31 43 (upd_same _ _ _)
 refine in_round (o := _) (d := 44) rfl rfl rfl (l := l) (args := #[.int .i64 ((pa2 : Int)), .int .i64 wh]) (by simp [go_sem, frv 47 k31_41, frv 47 k31_42, frv 47 k31_43]) (hY2 W28 q33') ?_ (fun _ h => nomatch h.1) (fun _ _ h => nomatch h.1)
 rintro v_ W32 ⟨rv32, jj32, kx32⟩
 obtain rfl := Ending.returned.inj rv32
 have fB32 := Below.trans fB28 (kx32.below hbw (fB28).size)
 have z32 := kx32.size
 have b32_0 := kx32.block _ _ (by omega) b28_0
 have b32_1 := kx32.block _ _ (by omega) b28_1
 generalize hg32 : upd g31 44 (.bool true) = g32
 have k32_1 := ku hg32 1 k31_1
 have k32_2 := ku hg32 2 k31_2
 have k32_10 := ku hg32 10 k31_10
 have k32_11 := ku hg32 11 k31_11
 have k32_7 := ku hg32 7 k31_7
 have k32_45 := ku hg32 45 k31_45
 have k32_12 := ku hg32 12 k31_12
 have k32_13 := ku hg32 13 k31_13
 have k32_4 := ku hg32 4 k31_4
 have k32_5 := ku hg32 5 k31_5
 have k32_6 := ku hg32 6 k31_6
 have k32_21 := ku hg32 21 k31_21
 have k32_41 := ku hg32 41 k31_41
 have k32_42 := ku hg32 42 k31_42
 have k32_43 := ku hg32 43 k31_43
 have k32_44 := kt hg32 44 (upd_same _ _ _)
 refine in_value (o := _) rfl rfl rfl (v := .bool false) (by simp [go_sem, frv 47 k32_44]) ?_
 generalize hg33 : upd g32 45 (.bool false) = g33
 have k33_1 := ku hg33 1 k32_1
 have k33_2 := ku hg33 2 k32_2
 have k33_10 := ku hg33 10 k32_10
 have k33_11 := ku hg33 11 k32_11
 have k33_7 := ku hg33 7 k32_7
 have k33_12 := ku hg33 12 k32_12
 have k33_13 := ku hg33 13 k32_13
 have k33_4 := ku hg33 4 k32_4
 have k33_5 := ku hg33 5 k32_5
 have k33_6 := ku hg33 6 k32_6
 have k33_21 := ku hg33 21 k32_21
 have k33_41 := ku hg33 41 k32_41
 have k33_42 := ku hg33 42 k32_42
 have k33_43 := ku hg33 43 k32_43
 have k33_44 := ku hg33 44 k32_44
 have k33_45 := kt hg33 45 (upd_same _ _ _)
 refine hK35 _ _ ?_
 refine wp_cond_false ((fr_eval rfl).trans k33_45) ?_
 refine wp_skip ?_
 refine inBlock_normal ?_
 refine hK29 _ _ ?_
 refine region_dk 2 [(46, 0), (12, 1)] [[], [0]] (rel [is (.int .i64 3),
   is (.int .i64 3)])
  ⟨is_k, is_k, trivial⟩
  ⟨fun f s W hW c j k m a => opv rfl rfl (by simp [go_sem, a.e 12 ((k 1 12 rfl rfl).trans k33_12), IntWalk.i64_in (3) (by omega)]) rfl,
  fun f s W hW c j k m a => opv rfl rfl (by simp [go_sem, a.e 46 (c 0 rfl)]) rfl, trivial⟩ ?_
 intro f34 s34 W34 hB34 g34 hg34
 have fB34 := hB34.f fB32
 have z34 := hB34.below.size
 have b34_0 := hB34.b b32_0
 have b34_1 := hB34.b b32_1
 have q34' := (hJb 3 _ _ jj32 hB34.below)
 refine wpOps_end ?_
 have k34_1 := kt hg34 1 k33_1
 have k34_2 := kt hg34 2 k33_2
 have k34_10 := kt hg34 10 k33_10
 have k34_11 := kt hg34 11 k33_11
 have k34_7 := kt hg34 7 k33_7
 have k34_13 := kt hg34 13 k33_13
 have k34_4 := kt hg34 4 k33_4
 have k34_5 := kt hg34 5 k33_5
 have k34_6 := kt hg34 6 k33_6
 have k34_21 := kt hg34 21 k33_21
 have k34_41 := kt hg34 41 k33_41
 have k34_42 := kt hg34 42 k33_42
 have k34_43 := kt hg34 43 k33_43
 have k34_44 := kt hg34 44 k33_44
 have k34_45 := kt hg34 45 k33_45
 have k34_12 := kt hg34 12 (hB34.is 1)
 refine then_normal ?_
 rw [rounds_succ]
 refine wp_seq_k fun K37 hK37 => ?_
 refine region_dk 1 [(13, 0)] [[]] (rel [is (.bool false)])
  ⟨is_k, trivial⟩
  ⟨fun f s W hW c j k m a => opv rfl rfl (by simp [go_sem, a.e 12 k34_12, a.e 11 k34_11]) rfl, trivial⟩ ?_
 intro f35 s35 W35 hB35 g35 hg35
 have fB35 := hB35.f fB34
 have z35 := hB35.below.size
 have b35_0 := hB35.b b34_0
 have b35_1 := hB35.b b34_1
 have q35' := (hJb 3 _ _ q34' hB35.below)
 refine hK37 _ _ ?_
 have k35_1 := kt hg35 1 k34_1
 have k35_2 := kt hg35 2 k34_2
 have k35_10 := kt hg35 10 k34_10
 have k35_11 := kt hg35 11 k34_11
 have k35_7 := kt hg35 7 k34_7
 have k35_4 := kt hg35 4 k34_4
 have k35_5 := kt hg35 5 k34_5
 have k35_6 := kt hg35 6 k34_6
 have k35_21 := kt hg35 21 k34_21
 have k35_41 := kt hg35 41 k34_41
 have k35_42 := kt hg35 42 k34_42
 have k35_43 := kt hg35 43 k34_43
 have k35_44 := kt hg35 44 k34_44
 have k35_45 := kt hg35 45 k34_45
 have k35_12 := kt hg35 12 k34_12
 have k35_13 := kt hg35 13 (hB35.is 0)
 refine wp_seq_k fun K38 hK38 => ?_
 refine wp_cond_false ((fr_eval rfl).trans k35_13) ?_
 refine wp_exit ?_
 refine then_exit ?_
 refine then_exit ?_
 refine inBlock_at ?_
 refine leave_gen (v := .tuple #[]) (.inl rfl) (by simp [results, Try.results70, go_sem]) ?_
 exact ⟨⟨_, rfl⟩, q35'⟩
end Go.Proofs.Ytiocklgakklkpaa
