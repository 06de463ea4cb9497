/- Part of the proof: what the claim leans on. -/
import Derived.Test.YtolnpbpeifpbjaaQAJ
import Derived.Test.YtolnpbpeifpbjaaQAK
import Derived.Test.YtolnpbpeifpbjaaQAF
import Derived.Test.YtolnpbpeifpbjaaQAC
import Derived.Test.YtolnpbpeifpbjaaQAG
set_option linter.unusedSimpArgs false
set_option linter.unusedVariables false
namespace Go.Proofs.Ytolnpbpeifpbjaa
open Go.RowKit
theorem inP_value {n : Nat} {P : Program} {ops : Array Oper} {Q : Exit → Act → World → Prop} {i d N : Nat} {L : List Nat} {g : Nat → Value} {W : World} {o : Oper} {v : Value} (ho : ops[i]? = some o) (hg : o.guard = none) (hd : o.dst = some d) (hr : (execOp (fr N g).eval o).run P W = .ok (.value v) W)
    (h : wpOpsIn Fence.wide n P ops Q L (fr N (upd g d v)) W) : wpOpsIn Fence.wide n P ops Q (i :: L) (fr N g) W := by
  rw [wpOpsIn_cons]
  unfold wpOpIn
  simp only [ho, Region.wanted, hg, if_true]
  refine ⟨fun _ _ => trivial, ?_⟩
  show o.uponIn _ _ _ _ _ _ ((execOp (fr N g).eval o).run P W)
  rw [hr]
  show wpOpsIn _ _ _ _ _ _ ((fr N g).put o.dst v) W
  rw [hd, fr_put]; exact h
theorem inP_round {n : Nat} {P : Program} {ops : Array Oper} {Q : Exit → Act → World → Prop} {i d N l : Nat} {args : Array Value} {L : List Nat} {g : Nat → Value} {W : World} {o : Oper} {R : Ending → World → Prop} (ho : ops[i]? = some o) (hg : o.guard = none) (hd : o.dst = some d) (hr : (execOp (fr N g).eval o).run P W = (Instr.yield l args).run P W)
    (hy : YieldAt Fence.wide (n - 1) P l args W R) (hK : ∀ v W', R (.returned v) W' → wpOpsIn Fence.wide n P ops Q L (fr N (upd g d v)) W') (h1 : ∀ W', ¬ R .outgrown W') (h2 : ∀ c W', ¬ R (.panicked c) W') : wpOpsIn Fence.wide n P ops Q (i :: L) (fr N g) W := by
  rw [wpOpsIn_cons]
  unfold wpOpIn
  simp only [ho, Region.wanted, hg, if_true]
  refine ⟨fun _ _ => trivial, ?_⟩
  show o.uponIn _ _ _ _ _ _ ((execOp (fr N g).eval o).run P W)
  obtain ⟨fn, tmps, assign, body, h3, h4⟩ := hy
  rw [hr, h3, Oper.uponIn_round]
  refine ⟨fun h => by simp [Fence.wide] at h, h4.mono fun e W' he => ?_⟩
  cases e with
  | returned v =>
    show wpOpsIn _ _ _ _ _ _ ((fr N g).put o.dst v) W'
    rw [hd, fr_put]; exact hK v W' he
  | panicked c => exact absurd he (h2 c W')
  | outgrown => exact absurd he (h1 W')
theorem inQ_value {n : Nat} {P : Program} {ops : Array Oper} {Q : Exit → Act → World → Prop} {i d N l0 : Nat} {L : List Nat} {g : Nat → Value} {W : World} {o : Oper} {v : Value} (ho : ops[i]? = some o) (hg : o.guard = none) (hnd : ∀ c, o.op ≠ .defer c) (hd : o.dst = some d) (hr : (execOp (fr N g).eval o).run P W = .ok (.value v) W)
    (h : wpOpsIn (Fence.wide.inRound l0) n P ops Q L (fr N (upd g d v)) W) : wpOpsIn (Fence.wide.inRound l0) n P ops Q (i :: L) (fr N g) W := by
  rw [wpOpsIn_cons]
  unfold wpOpIn
  simp only [ho, Region.wanted, hg, if_true]
  refine ⟨fun _ _ => trivial, ?_⟩
  rw [Oper.semAt_eq _ _ _ hnd]
  show o.uponIn _ _ _ _ _ _ ((execOp (fr N g).eval o).run P W)
  rw [hr]
  show wpOpsIn _ _ _ _ _ _ ((fr N g).put o.dst v) W
  rw [hd, fr_put]; exact h
theorem inQ_round {n : Nat} {P : Program} {ops : Array Oper} {Q : Exit → Act → World → Prop} {i d N l l0 : Nat} {args : Array Value} {L : List Nat} {g : Nat → Value} {W : World} {o : Oper} {R : Ending → World → Prop} (ho : ops[i]? = some o) (hg : o.guard = none) (hnd : ∀ c, o.op ≠ .defer c) (hd : o.dst = some d) (hr : (execOp (fr N g).eval o).run P W = (Instr.yield l args).run P W)
    (hy : YieldAt Fence.wide (n - 1) P l args W R) (hK : ∀ v W', R (.returned v) W' → wpOpsIn (Fence.wide.inRound l0) n P ops Q L (fr N (upd g d v)) W') (h1 : ∀ W', ¬ R .outgrown W') (h2 : ∀ c W', ¬ R (.panicked c) W') : wpOpsIn (Fence.wide.inRound l0) n P ops Q (i :: L) (fr N g) W := by
  rw [wpOpsIn_cons]
  unfold wpOpIn
  simp only [ho, Region.wanted, hg, if_true]
  refine ⟨fun _ _ => trivial, ?_⟩
  rw [Oper.semAt_eq _ _ _ hnd]
  show o.uponIn _ _ _ _ _ _ ((execOp (fr N g).eval o).run P W)
  obtain ⟨fn, tmps, assign, body, h3, h4⟩ := hy
  rw [hr, h3, Oper.uponIn_round]
  refine ⟨fun h => by simp [Fence.wide, Fence.inRound] at h, h4.mono fun e W' he => ?_⟩
  cases e with
  | returned v =>
    show wpOpsIn _ _ _ _ _ _ ((fr N g).put o.dst v) W'
    rw [hd, fr_put]; exact hK v W' he
  | panicked c => exact absurd he (h2 c W')
  | outgrown => exact absurd he (h1 W')
theorem fr_set {N p : Nat} {g : Nat → Value} {v : Value} : ({ tmps := (fr N g).tmps.setIfInBounds p v, defers := [] } : Act) = fr N (upd g p v) := fr_put N g p v
theorem noOut_then {K : Act → World → Prop} {Q : Exit → Act → World → Prop} (h : ¬ LetsOut Q) : ¬ LetsOut (Exit.then K Q) := fun ⟨a, w, e⟩ => h ⟨a, w, e⟩
theorem noOut_block {i : Nat} {Q : Exit → Act → World → Prop} (h : ¬ LetsOut Q) : ¬ LetsOut (Exit.inBlock i Q) := fun ⟨a, w, e⟩ => h ⟨a, w, e⟩
theorem noOut_false {K : Act → World → Prop} : ¬ LetsOut (Exit.then K (fun _ _ _ => False)) := fun ⟨_, _, e⟩ => e
set_option maxRecDepth 100000 in
set_option maxHeartbeats 4000000 in
theorem backward_false (q : Qu) (bs os cs : Nat) (l bx : Nat) (SS : Nat → Prop) (J : Nat → World → Prop) (w v1 : World) (hR : StepR w bs os q) (hB0 : Below w.heap.size w v1) (hbx : v1.heap[bx]? = some (.cells #[.slice (some ⟨bs, os, none⟩) (1) (cs)] 30 (0, 0))) (hJb : ∀ i W W', J i W → Below W.heap.size W W' → J i W') (hJ0 : J 0 v1) (hY : ∀ W, J 0 W → YieldAt Fence.wide 7 Try.prog l #[.int .i64 0, .agg #[.int .i64 q.sf, .int .i64 q.so]] W fun e W' => e = .returned (.bool false) ∧ J 1 W' ∧ KeepP SS W W') (hS : ∀ b, SS b → w.heap.size ≤ b) :
  Calls Try.prog 96 #[.func (.yield l) #[] #[], .pointer (some ⟨bx, 0, none⟩)] v1 (fun e w' => (∃ v, e = .returned v) ∧ J 1 w') := by
 refine calls_fr Try.func96 Try.ntmps96 rfl rfl fun g hg => ?_
 have k0 : g 0 = .func (.yield l) #[] #[] := hg 0
 have k1 : g 1 = .pointer (some ⟨bx, 0, none⟩) := hg 1
 clear hg
 have fB0 : Below w.heap.size w v1 := hB0
 have lt_bx := lt_of_blk hbx
 refine wp_seq_k fun K1 hK1 => ?_
 refine region_dk 4 [(4, 0), (5, 1), (6, 2), (3, 3)] [[], [0], [0, 1], [0, 1, 2]] (rel [is (.slice (some ⟨bs, os, none⟩) (1) (cs)),
   is (.int .i64 1),
   is (.int .i64 0),
   is (.int .i64 0)])
  ⟨is_k, is_k, is_k, is_k, trivial⟩
  ⟨fun f s W c j k m p a => opv rfl rfl (by simp [go_sem, a.e 1 k1, cb hbx c 0]) rfl,
  fun f s W c j k m p a => opv rfl rfl (by simp [go_sem, a.e 4 (j 0 rfl)]) rfl,
  fun f s W c j k m p a => opv rfl rfl (by simp [go_sem, a.e 5 (j 1 rfl), IntWalk.i64_in (0) (by omega)]) rfl,
  fun f s W c j k m p a => opv rfl rfl (by simp [go_sem, a.e 6 (j 2 rfl)]) rfl, trivial⟩ ?_
 intro f1 s1 W1 hB1 g1 hg1
 have fB1 := hB1.f fB0
 have z1 := hB1.below.size
 have b1_0 := hB1.b hbx
 have q1' := (hJb 0 _ _ hJ0 hB1.below)
 refine hK1 _ _ ?_
 have k1_0 := kt hg1 0 k0
 have k1_1 := kt hg1 1 k1
 have k1_3 := kt hg1 3 (hB1.is 3)
 refine wp_block ?_
 refine wp_loop_rounds 2 ?_
 rw [rounds_succ]
 refine wp_seq_k fun K2 hK2 => ?_
 refine wp_seq_k fun K3 hK3 => ?_
 refine region_dk 2 [(7, 0), (8, 1)] [[], [0]] (rel [is (.int .i64 0),
   is (.bool true)])
  ⟨is_k, is_k, trivial⟩
  ⟨fun f s W c j k m p a => opv rfl rfl (by simp [go_sem, a.e 3 k1_3]) rfl,
  fun f s W c j k m p a => opv rfl rfl (by simp [go_sem, a.e 7 (j 0 rfl)]) rfl, trivial⟩ ?_
 intro f2 s2 W2 hB2 g2 hg2
 have fB2 := hB2.f fB1
 have z2 := hB2.below.size
 have b2_0 := hB2.b b1_0
 have q2' := (hJb 0 _ _ q1' hB2.below)
 refine hK3 _ _ ?_
 have k2_0 := kt hg2 0 k1_0
 have k2_1 := kt hg2 1 k1_1
 have k2_3 := kt hg2 3 k1_3
 have k2_8 := kt hg2 8 (hB2.is 1)
 refine wp_cond_true ((fr_eval rfl).trans k2_8) ?_
 refine wp_skip ?_
 refine hK2 _ _ ?_
 refine wp_seq_k fun K5 hK5 => ?_
 refine wp_block ?_
 refine wp_seq_k fun K6 hK6 => ?_
 refine (wpIn_wide (n := 8)).1 (wpIn_region ?_)
 show wpOpsIn _ _ _ _ _ [0, 1, 2, 3, 4, 5, 6, 7] _ _
 refine inP_value (o := _) rfl rfl rfl (v := .func (.yield l) #[] #[]) (by simp [go_sem, frv 19 k2_0]) ?_
 generalize hg3 : upd g2 11 (.func (.yield l) #[] #[]) = g3
 have k3_0 := ku hg3 0 k2_0
 have k3_1 := ku hg3 1 k2_1
 have k3_3 := ku hg3 3 k2_3
 have k3_8 := ku hg3 8 k2_8
 have k3_11 := kt hg3 11 (upd_same _ _ _)
 refine inP_value (o := _) rfl rfl rfl (v := .int .i64 0) (by simp [go_sem, frv 19 k3_3]) ?_
 generalize hg4 : upd g3 12 (.int .i64 0) = g4
 have k4_0 := ku hg4 0 k3_0
 have k4_1 := ku hg4 1 k3_1
 have k4_3 := ku hg4 3 k3_3
 have k4_8 := ku hg4 8 k3_8
 have k4_11 := ku hg4 11 k3_11
 have k4_12 := kt hg4 12 (upd_same _ _ _)
 refine inP_value (o := _) rfl rfl rfl (v := .slice (some ⟨bs, os, none⟩) (1) (cs)) (by simp [go_sem, frv 19 k4_1, cl b2_0 0]) ?_
 generalize hg5 : upd g4 13 (.slice (some ⟨bs, os, none⟩) (1) (cs)) = g5
 have k5_0 := ku hg5 0 k4_0
 have k5_1 := ku hg5 1 k4_1
 have k5_3 := ku hg5 3 k4_3
 have k5_8 := ku hg5 8 k4_8
 have k5_11 := ku hg5 11 k4_11
 have k5_12 := ku hg5 12 k4_12
 have k5_13 := kt hg5 13 (upd_same _ _ _)
 refine inP_value (o := _) rfl rfl rfl (v := .int .i64 0) (by simp [go_sem, frv 19 k5_3]) ?_
 generalize hg6 : upd g5 14 (.int .i64 0) = g6
 have k6_0 := ku hg6 0 k5_0
 have k6_1 := ku hg6 1 k5_1
 have k6_3 := ku hg6 3 k5_3
 have k6_8 := ku hg6 8 k5_8
 have k6_11 := ku hg6 11 k5_11
 have k6_12 := ku hg6 12 k5_12
 have k6_13 := ku hg6 13 k5_13
 have k6_14 := kt hg6 14 (upd_same _ _ _)
 refine inP_value (o := _) rfl rfl rfl (v := .pointer (some ⟨bs, os, none⟩)) (by simp [go_sem, frv 19 k6_13, frv 19 k6_14]) ?_
 generalize hg7 : upd g6 15 (.pointer (some ⟨bs, os, none⟩)) = g7
 have k7_0 := ku hg7 0 k6_0
 have k7_1 := ku hg7 1 k6_1
 have k7_3 := ku hg7 3 k6_3
 have k7_8 := ku hg7 8 k6_8
 have k7_11 := ku hg7 11 k6_11
 have k7_12 := ku hg7 12 k6_12
 have k7_13 := ku hg7 13 k6_13
 have k7_14 := ku hg7 14 k6_14
 have k7_15 := kt hg7 15 (upd_same _ _ _)
 have cu := (hR.below fB2).2
 refine inP_value (o := _) rfl rfl rfl (v := .agg #[.int .i64 q.sf, .int .i64 q.so]) (by simp [go_sem, frv 19 k7_15, cu.1, cu.2]) ?_
 generalize hg8 : upd g7 16 (.agg #[.int .i64 q.sf, .int .i64 q.so]) = g8
 have k8_0 := ku hg8 0 k7_0
 have k8_1 := ku hg8 1 k7_1
 have k8_3 := ku hg8 3 k7_3
 have k8_8 := ku hg8 8 k7_8
 have k8_11 := ku hg8 11 k7_11
 have k8_12 := ku hg8 12 k7_12
 have k8_13 := ku hg8 13 k7_13
 have k8_14 := ku hg8 14 k7_14
 have k8_15 := ku hg8 15 k7_15
 have k8_16 := kt hg8 16 (upd_same _ _ _)
 refine inP_round (o := _) (d := 17) rfl rfl rfl (l := l) (args := #[.int .i64 0, .agg #[.int .i64 q.sf, .int .i64 q.so]]) (by simp [go_sem, frv 19 k8_11, frv 19 k8_12, frv 19 k8_16]) (hY W2 q2') ?_ (fun _ h => nomatch h.1) (fun _ _ h => nomatch h.1)
 rintro v_ W9 ⟨rv9, jj9, kx9⟩
 have fB9 := Below.trans fB2 (kx9.below hS (fB2).size)
 have z9 := kx9.size
 obtain rfl := Ending.returned.inj rv9
 generalize hg9 : upd g8 17 (.bool false) = g9
 have k9_0 := ku hg9 0 k8_0
 have k9_1 := ku hg9 1 k8_1
 have k9_3 := ku hg9 3 k8_3
 have k9_8 := ku hg9 8 k8_8
 have k9_11 := ku hg9 11 k8_11
 have k9_12 := ku hg9 12 k8_12
 have k9_13 := ku hg9 13 k8_13
 have k9_14 := ku hg9 14 k8_14
 have k9_15 := ku hg9 15 k8_15
 have k9_16 := ku hg9 16 k8_16
 have k9_17 := kt hg9 17 (upd_same _ _ _)
 refine inP_value (o := _) rfl rfl rfl (v := .bool true) (by simp [go_sem, frv 19 k9_17]) ?_
 generalize hg10 : upd g9 18 (.bool true) = g10
 have k10_0 := ku hg10 0 k9_0
 have k10_1 := ku hg10 1 k9_1
 have k10_3 := ku hg10 3 k9_3
 have k10_8 := ku hg10 8 k9_8
 have k10_11 := ku hg10 11 k9_11
 have k10_12 := ku hg10 12 k9_12
 have k10_13 := ku hg10 13 k9_13
 have k10_14 := ku hg10 14 k9_14
 have k10_15 := ku hg10 15 k9_15
 have k10_16 := ku hg10 16 k9_16
 have k10_17 := ku hg10 17 k9_17
 have k10_18 := kt hg10 18 (upd_same _ _ _)
 refine hK6 _ _ ?_
 refine wp_cond_true ((fr_eval rfl).trans k10_18) ?_
 refine wp_ret ?_
 refine inBlock_ret (then_ret (then_ret (inBlock_ret ?_)))
 refine leave_gen (v := .tuple #[]) (.inr rfl) (by simp [results, Try.results96, go_sem]) ?_
 exact ⟨⟨_, rfl⟩, jj9⟩
set_option maxRecDepth 100000 in
set_option maxHeartbeats 4000000 in
theorem backward_true (q : Qu) (bs os cs : Nat) (l bx : Nat) (SS : Nat → Prop) (J : Nat → World → Prop) (w v1 : World) (hR : StepR w bs os q) (hB0 : Below w.heap.size w v1) (hbx : v1.heap[bx]? = some (.cells #[.slice (some ⟨bs, os, none⟩) (1) (cs)] 30 (0, 0))) (hJb : ∀ i W W', J i W → Below W.heap.size W W' → J i W') (hJ0 : J 0 v1) (hY : ∀ W, J 0 W → YieldAt Fence.wide 7 Try.prog l #[.int .i64 0, .agg #[.int .i64 q.sf, .int .i64 q.so]] W fun e W' => e = .returned (.bool true) ∧ J 1 W' ∧ KeepP SS W W') (hS : ∀ b, SS b → w.heap.size ≤ b) :
  Calls Try.prog 96 #[.func (.yield l) #[] #[], .pointer (some ⟨bx, 0, none⟩)] v1 (fun e w' => (∃ v, e = .returned v) ∧ J 1 w') := by
 refine calls_fr Try.func96 Try.ntmps96 rfl rfl fun g hg => ?_
 have k0 : g 0 = .func (.yield l) #[] #[] := hg 0
 have k1 : g 1 = .pointer (some ⟨bx, 0, none⟩) := hg 1
 clear hg
 have fB0 : Below w.heap.size w v1 := hB0
 have lt_bx := lt_of_blk hbx
 refine wp_seq_k fun K1 hK1 => ?_
 refine region_dk 4 [(4, 0), (5, 1), (6, 2), (3, 3)] [[], [0], [0, 1], [0, 1, 2]] (rel [is (.slice (some ⟨bs, os, none⟩) (1) (cs)),
   is (.int .i64 1),
   is (.int .i64 0),
   is (.int .i64 0)])
  ⟨is_k, is_k, is_k, is_k, trivial⟩
  ⟨fun f s W c j k m p a => opv rfl rfl (by simp [go_sem, a.e 1 k1, cb hbx c 0]) rfl,
  fun f s W c j k m p a => opv rfl rfl (by simp [go_sem, a.e 4 (j 0 rfl)]) rfl,
  fun f s W c j k m p a => opv rfl rfl (by simp [go_sem, a.e 5 (j 1 rfl), IntWalk.i64_in (0) (by omega)]) rfl,
  fun f s W c j k m p a => opv rfl rfl (by simp [go_sem, a.e 6 (j 2 rfl)]) rfl, trivial⟩ ?_
 intro f1 s1 W1 hB1 g1 hg1
 have fB1 := hB1.f fB0
 have z1 := hB1.below.size
 have b1_0 := hB1.b hbx
 have q3' := (hJb 0 _ _ hJ0 hB1.below)
 refine hK1 _ _ ?_
 have k1_0 := kt hg1 0 k0
 have k1_1 := kt hg1 1 k1
 have k1_3 := kt hg1 3 (hB1.is 3)
 refine wp_block ?_
 refine wp_loop_rounds 2 ?_
 rw [rounds_succ]
 refine wp_seq_k fun K2 hK2 => ?_
 refine wp_seq_k fun K3 hK3 => ?_
 refine region_dk 2 [(7, 0), (8, 1)] [[], [0]] (rel [is (.int .i64 0),
   is (.bool true)])
  ⟨is_k, is_k, trivial⟩
  ⟨fun f s W c j k m p a => opv rfl rfl (by simp [go_sem, a.e 3 k1_3]) rfl,
  fun f s W c j k m p a => opv rfl rfl (by simp [go_sem, a.e 7 (j 0 rfl)]) rfl, trivial⟩ ?_
 intro f2 s2 W2 hB2 g2 hg2
 have fB2 := hB2.f fB1
 have z2 := hB2.below.size
 have b2_0 := hB2.b b1_0
 have q4' := (hJb 0 _ _ q3' hB2.below)
 refine hK3 _ _ ?_
 have k2_0 := kt hg2 0 k1_0
 have k2_1 := kt hg2 1 k1_1
 have k2_3 := kt hg2 3 k1_3
 have k2_8 := kt hg2 8 (hB2.is 1)
 refine wp_cond_true ((fr_eval rfl).trans k2_8) ?_
 refine wp_skip ?_
 refine hK2 _ _ ?_
 refine wp_seq_k fun K5 hK5 => ?_
 refine wp_block ?_
 refine wp_seq_k fun K6 hK6 => ?_
 refine (wpIn_wide (n := 8)).1 (wpIn_region ?_)
 show wpOpsIn _ _ _ _ _ [0, 1, 2, 3, 4, 5, 6, 7] _ _
 refine inP_value (o := _) rfl rfl rfl (v := .func (.yield l) #[] #[]) (by simp [go_sem, frv 19 k2_0]) ?_
 generalize hg3 : upd g2 11 (.func (.yield l) #[] #[]) = g3
 have k3_0 := ku hg3 0 k2_0
 have k3_1 := ku hg3 1 k2_1
 have k3_3 := ku hg3 3 k2_3
 have k3_8 := ku hg3 8 k2_8
 have k3_11 := kt hg3 11 (upd_same _ _ _)
 refine inP_value (o := _) rfl rfl rfl (v := .int .i64 0) (by simp [go_sem, frv 19 k3_3]) ?_
 generalize hg4 : upd g3 12 (.int .i64 0) = g4
 have k4_0 := ku hg4 0 k3_0
 have k4_1 := ku hg4 1 k3_1
 have k4_3 := ku hg4 3 k3_3
 have k4_8 := ku hg4 8 k3_8
 have k4_11 := ku hg4 11 k3_11
 have k4_12 := kt hg4 12 (upd_same _ _ _)
 refine inP_value (o := _) rfl rfl rfl (v := .slice (some ⟨bs, os, none⟩) (1) (cs)) (by simp [go_sem, frv 19 k4_1, cl b2_0 0]) ?_
 generalize hg5 : upd g4 13 (.slice (some ⟨bs, os, none⟩) (1) (cs)) = g5
 have k5_0 := ku hg5 0 k4_0
 have k5_1 := ku hg5 1 k4_1
 have k5_3 := ku hg5 3 k4_3
 have k5_8 := ku hg5 8 k4_8
 have k5_11 := ku hg5 11 k4_11
 have k5_12 := ku hg5 12 k4_12
 have k5_13 := kt hg5 13 (upd_same _ _ _)
 refine inP_value (o := _) rfl rfl rfl (v := .int .i64 0) (by simp [go_sem, frv 19 k5_3]) ?_
 generalize hg6 : upd g5 14 (.int .i64 0) = g6
 have k6_0 := ku hg6 0 k5_0
 have k6_1 := ku hg6 1 k5_1
 have k6_3 := ku hg6 3 k5_3
 have k6_8 := ku hg6 8 k5_8
 have k6_11 := ku hg6 11 k5_11
 have k6_12 := ku hg6 12 k5_12
 have k6_13 := ku hg6 13 k5_13
 have k6_14 := kt hg6 14 (upd_same _ _ _)
 refine inP_value (o := _) rfl rfl rfl (v := .pointer (some ⟨bs, os, none⟩)) (by simp [go_sem, frv 19 k6_13, frv 19 k6_14]) ?_
 generalize hg7 : upd g6 15 (.pointer (some ⟨bs, os, none⟩)) = g7
 have k7_0 := ku hg7 0 k6_0
 have k7_1 := ku hg7 1 k6_1
 have k7_3 := ku hg7 3 k6_3
 have k7_8 := ku hg7 8 k6_8
 have k7_11 := ku hg7 11 k6_11
 have k7_12 := ku hg7 12 k6_12
 have k7_13 := ku hg7 13 k6_13
 have k7_14 := ku hg7 14 k6_14
 have k7_15 := kt hg7 15 (upd_same _ _ _)
 have cu := (hR.below fB2).2
 refine inP_value (o := _) rfl rfl rfl (v := .agg #[.int .i64 q.sf, .int .i64 q.so]) (by simp [go_sem, frv 19 k7_15, cu.1, cu.2]) ?_
 generalize hg8 : upd g7 16 (.agg #[.int .i64 q.sf, .int .i64 q.so]) = g8
 have k8_0 := ku hg8 0 k7_0
 have k8_1 := ku hg8 1 k7_1
 have k8_3 := ku hg8 3 k7_3
 have k8_8 := ku hg8 8 k7_8
 have k8_11 := ku hg8 11 k7_11
 have k8_12 := ku hg8 12 k7_12
 have k8_13 := ku hg8 13 k7_13
 have k8_14 := ku hg8 14 k7_14
 have k8_15 := ku hg8 15 k7_15
 have k8_16 := kt hg8 16 (upd_same _ _ _)
 refine inP_round (o := _) (d := 17) rfl rfl rfl (l := l) (args := #[.int .i64 0, .agg #[.int .i64 q.sf, .int .i64 q.so]]) (by simp [go_sem, frv 19 k8_11, frv 19 k8_12, frv 19 k8_16]) (hY W2 q4') ?_ (fun _ h => nomatch h.1) (fun _ _ h => nomatch h.1)
 rintro v_ W9 ⟨rv9, jj9, kx9⟩
 have fB9 := Below.trans fB2 (kx9.below hS (fB2).size)
 have z9 := kx9.size
 obtain rfl := Ending.returned.inj rv9
 generalize hg9 : upd g8 17 (.bool true) = g9
 have k9_0 := ku hg9 0 k8_0
 have k9_1 := ku hg9 1 k8_1
 have k9_3 := ku hg9 3 k8_3
 have k9_8 := ku hg9 8 k8_8
 have k9_11 := ku hg9 11 k8_11
 have k9_12 := ku hg9 12 k8_12
 have k9_13 := ku hg9 13 k8_13
 have k9_14 := ku hg9 14 k8_14
 have k9_15 := ku hg9 15 k8_15
 have k9_16 := ku hg9 16 k8_16
 have k9_17 := kt hg9 17 (upd_same _ _ _)
 refine inP_value (o := _) rfl rfl rfl (v := .bool false) (by simp [go_sem, frv 19 k9_17]) ?_
 generalize hg10 : upd g9 18 (.bool false) = g10
 have k10_0 := ku hg10 0 k9_0
 have k10_1 := ku hg10 1 k9_1
 have k10_3 := ku hg10 3 k9_3
 have k10_8 := ku hg10 8 k9_8
 have k10_11 := ku hg10 11 k9_11
 have k10_12 := ku hg10 12 k9_12
 have k10_13 := ku hg10 13 k9_13
 have k10_14 := ku hg10 14 k9_14
 have k10_15 := ku hg10 15 k9_15
 have k10_16 := ku hg10 16 k9_16
 have k10_17 := ku hg10 17 k9_17
 have k10_18 := kt hg10 18 (upd_same _ _ _)
 refine hK6 _ _ ?_
 refine wp_cond_false ((fr_eval rfl).trans k10_18) ?_
 refine wp_skip ?_
 refine inBlock_normal ?_
 refine hK5 _ _ ?_
 refine region_dk 3 [(9, 0), (10, 1), (3, 2)] [[], [0], [0, 1]] (rel [is (.int .i64 0),
   is (.int .i64 (-1)),
   is (.int .i64 (-1))])
  ⟨is_k, is_k, is_k, trivial⟩
  ⟨fun f s W c j k m p a => opv rfl rfl (by simp [go_sem, a.e 3 ((m 2 3 rfl rfl).trans k10_3)]) rfl,
  fun f s W c j k m p a => opv rfl rfl (by simp [go_sem, a.e 9 (j 0 rfl), IntWalk.i64_in (-1) (by omega)]) rfl,
  fun f s W c j k m p a => opv rfl rfl (by simp [go_sem, a.e 10 (j 1 rfl)]) rfl, trivial⟩ ?_
 intro f11 s11 W11 hB11 g11 hg11
 have fB11 := hB11.f fB9
 have z11 := hB11.below.size
 have q5' := (hJb 1 _ _ jj9 hB11.below)
 refine wpOps_end ?_
 have k11_0 := kt hg11 0 k10_0
 have k11_1 := kt hg11 1 k10_1
 have k11_8 := kt hg11 8 k10_8
 have k11_11 := kt hg11 11 k10_11
 have k11_12 := kt hg11 12 k10_12
 have k11_13 := kt hg11 13 k10_13
 have k11_14 := kt hg11 14 k10_14
 have k11_15 := kt hg11 15 k10_15
 have k11_16 := kt hg11 16 k10_16
 have k11_17 := kt hg11 17 k10_17
 have k11_18 := kt hg11 18 k10_18
 have k11_3 := kt hg11 3 (hB11.is 2)
 refine then_normal ?_
 rw [rounds_succ]
 refine wp_seq_k fun K8 hK8 => ?_
 refine wp_seq_k fun K9 hK9 => ?_
 refine region_dk 2 [(7, 0), (8, 1)] [[], [0]] (rel [is (.int .i64 (-1)),
   is (.bool false)])
  ⟨is_k, is_k, trivial⟩
  ⟨fun f s W c j k m p a => opv rfl rfl (by simp [go_sem, a.e 3 k11_3]) rfl,
  fun f s W c j k m p a => opv rfl rfl (by simp [go_sem, a.e 7 (j 0 rfl)]) rfl, trivial⟩ ?_
 intro f12 s12 W12 hB12 g12 hg12
 have fB12 := hB12.f fB11
 have z12 := hB12.below.size
 have q6' := (hJb 1 _ _ q5' hB12.below)
 refine hK9 _ _ ?_
 have k12_0 := kt hg12 0 k11_0
 have k12_1 := kt hg12 1 k11_1
 have k12_11 := kt hg12 11 k11_11
 have k12_12 := kt hg12 12 k11_12
 have k12_13 := kt hg12 13 k11_13
 have k12_14 := kt hg12 14 k11_14
 have k12_15 := kt hg12 15 k11_15
 have k12_16 := kt hg12 16 k11_16
 have k12_17 := kt hg12 17 k11_17
 have k12_18 := kt hg12 18 k11_18
 have k12_3 := kt hg12 3 k11_3
 have k12_8 := kt hg12 8 (hB12.is 1)
 refine wp_cond_false ((fr_eval rfl).trans k12_8) ?_
 refine wp_exit ?_
 refine then_exit ?_
 refine then_exit ?_
 refine inBlock_at ?_
 refine leave_gen (v := .tuple #[]) (.inl rfl) (by simp [results, Try.results96, go_sem]) ?_
 exact ⟨⟨_, rfl⟩, q6'⟩
end Go.Proofs.Ytolnpbpeifpbjaa
namespace Go.Proofs.Ytolnpbpeifpbjaa
open Go.RowKit Go.Shelf
theorem calls_frM {P : Program} {f : FuncId} {fn : Func} {c : Code} {args : Array Value} {w : World} {R : Ending → World → Prop} {N n : Nat} (hf : P.funcs[f]? = some fn) (hN : fn.ntmps = N) (hb : fn.body = some c) (a : decide (args.size ≤ N) = true)
    (h : ∀ g : Nat → Value, (∀ i, g i = args.getD i undef) → c.wp P (bodyPostM Fence.wide n P fn R) (fr N g) w) : Calls P f args w R := by
  subst hN
  refine (callsIn_wide (n := n)).1 (callsIn_of_wp_marks hf hb trivial (wpIn_wide.2 ?_) rfl)
  have := h (fun i => args.getD i undef) fun _ => rfl
  have hs' := of_decide_eq_true a
  have e : fr fn.ntmps (fun i => args.getD i undef) = { tmps := args ++ Array.replicate (fn.ntmps - args.size) undef, defers := [] } := by
    simp only [fr, Act.mk.injEq, and_true]
    apply Array.ext
    · simp; omega
    · intro i h1 h2
      simp only [List.getElem_toArray, List.getElem_map, List.getElem_range]
      by_cases hi : i < args.size
      · rw [Array.getElem_append_left hi]; simp [hi]
      · rw [Array.getElem_append_right (by omega)]; simp [hi]
  rw [← e]; exact this
/-- Leaving it: the mark is taken, and there is no deferred call behind it. -/
theorem leave_mark {P : Program} {fn : Func} {R : Ending → World → Prop} {tmps : Array Value} {W : World} {D n : Nat} {v : Value} {e : Exit} {a : Act} (he : e = .normal ∨ e = .ret) (ha : a.tmps = tmps) (hd : a.defers = [{ target := .collected D, args := #[] }]) (hD : W.heap[D]? = some (.deferred (some [])))
    (hr : ∀ W', (results fn tmps).run P W' = .ok v W') (h : R (.returned v) (W.putObj D (.deferred none))) : bodyPostM Fence.wide n P fn R e a W := by
  have key : LeavesInM Fence.wide n P fn a.tmps R a.defers .returning W := by
    rw [hd, ha]
    exact ⟨by simp, .inl ⟨D, _, rfl, run_takeDeferred hD, v, hr _, h⟩⟩
  rcases he with rfl | rfl
  · exact key
  · exact key
/-- The same, where one result lies in a cell. -/
theorem leave_markc {P : Program} {fn : Func} {R : Ending → World → Prop} {tmps : Array Value} {W : World} {D n : Nat} {v : Value} {e : Exit} {a : Act} (he : e = .normal ∨ e = .ret) (ha : a.tmps = tmps) (hd : a.defers = [{ target := .collected D, args := #[] }]) (hD : W.heap[D]? = some (.deferred (some [])))
    (hr : (results fn tmps).run P (W.putObj D (.deferred none)) = .ok v (W.putObj D (.deferred none))) (h : R (.returned v) (W.putObj D (.deferred none))) : bodyPostM Fence.wide n P fn R e a W := by
  have key : LeavesInM Fence.wide n P fn a.tmps R a.defers .returning W := by
    rw [hd, ha]
    exact ⟨by simp, .inl ⟨D, _, rfl, run_takeDeferred hD, v, hr, h⟩⟩
  rcases he with rfl | rfl
  · exact key
  · exact key
theorem below_put {B : Nat} {W : World} {l : Nat} {o : Obj} (h : B ≤ l) : Below B W (W.putObj l o) :=
  ⟨rfl, rfl, rfl, by rw [putObj_size]; exact Nat.le_refl _, fun k hk => World.putObj_heap_other (by omega)⟩
/-- A frame with deferred calls. -/
def frD (ds : List Deferred) (N : Nat) (g : Nat → Value) : Act := { tmps := (fr N g).tmps, defers := ds }
theorem frD_put (ds : List Deferred) (N : Nat) (g : Nat → Value) (d : Nat) (v : Value) : (frD ds N g).put (some d) v = frD ds N (upd g d v) := by
  have h := fr_put N g d v
  simp only [Act.put, frD] at h ⊢
  rw [← h]
theorem frD_evv {ds : List Deferred} {N : Nat} {g : Nat → Value} {t : Nat} {v : Value} (hv : g t = v) (ht : decide (t < N) = true := by rfl) : (frD ds N g).tmps[t]?.getD undef = v := frv N hv ht
theorem inD_value {n : Nat} {P : Program} {ops : Array Oper} {Q : Exit → Act → World → Prop} {i d N : Nat} {ds : List Deferred} {L : List Nat} {g : Nat → Value} {W : World} {o : Oper} {v : Value} (ho : ops[i]? = some o) (hg : o.guard = none) (hd : o.dst = some d) (hr : (execOp (frD ds N g).eval o).run P W = .ok (.value v) W)
    (h : wpOpsIn Fence.wide n P ops Q L (frD ds N (upd g d v)) W) : wpOpsIn Fence.wide n P ops Q (i :: L) (frD ds N g) W := by
  rw [wpOpsIn_cons]
  unfold wpOpIn
  simp only [ho, Region.wanted, hg, if_true]
  refine ⟨fun _ _ => trivial, ?_⟩
  show o.uponIn _ _ _ _ _ _ ((execOp (frD ds N g).eval o).run P W)
  rw [hr]
  show wpOpsIn _ _ _ _ _ _ ((frD ds N g).put o.dst v) W
  rw [hd, frD_put]; exact h
theorem inD_round {n : Nat} {P : Program} {ops : Array Oper} {Q : Exit → Act → World → Prop} {i d N l : Nat} {ds : List Deferred} {args : Array Value} {L : List Nat} {g : Nat → Value} {W : World} {o : Oper} {R : Ending → World → Prop} (ho : ops[i]? = some o) (hg : o.guard = none) (hd : o.dst = some d) (hr : (execOp (frD ds N g).eval o).run P W = (Instr.yield l args).run P W)
    (hy : YieldAt Fence.wide (n - 1) P l args W R) (hK : ∀ v W', R (.returned v) W' → wpOpsIn Fence.wide n P ops Q L (frD ds N (upd g d v)) W') (h1 : ∀ W', ¬ R .outgrown W') (h2 : ∀ c W', ¬ R (.panicked c) W') : wpOpsIn Fence.wide n P ops Q (i :: L) (frD ds N g) W := by
  rw [wpOpsIn_cons]
  unfold wpOpIn
  simp only [ho, Region.wanted, hg, if_true]
  refine ⟨fun _ _ => trivial, ?_⟩
  show o.uponIn _ _ _ _ _ _ ((execOp (frD ds N g).eval o).run P W)
  obtain ⟨fn, tmps, assign, body, h3, h4⟩ := hy
  rw [hr, h3, Oper.uponIn_round]
  refine ⟨fun h => by simp [Fence.wide] at h, h4.mono fun e W' he => ?_⟩
  cases e with
  | returned v =>
    show wpOpsIn _ _ _ _ _ _ ((frD ds N g).put o.dst v) W'
    rw [hd, frD_put]; exact hK v W' he
  | panicked c => exact absurd he (h2 c W')
  | outgrown => exact absurd he (h1 W')
end Go.Proofs.Ytolnpbpeifpbjaa
namespace Go.Proofs.Ytolnpbpeifpbjaa
open Go.RowKit
theorem foldl_two (X : Array Value) (p q : Tmp) (a b : Value) : ((#[p, q] : Array Tmp).zip #[a, b]).foldl (fun t (p, v) => t.setIfInBounds p v) X = (X.setIfInBounds p a).setIfInBounds q b := by
  simp [Array.zip, ← Array.foldl_toList]
/-- The iterator backward: a function value with a box. -/
def BwV (v : Value) (bs os cs : Nat) (W : World) : Prop := ∃ bx, v = .func (.func 96) #[] #[.pointer (some ⟨bx, 0, none⟩)] ∧ W.heap[bx]? = some (.cells #[.slice (some ⟨bs, os, none⟩) 1 cs] 30 (0, 0))
theorem BwV.below {v : Value} {bs os cs : Nat} {W W' : World} (h : BwV v bs os cs W) (hb : Below W.heap.size W W') : BwV v bs os cs W' := by
  obtain ⟨bx, e, h⟩ := h; exact ⟨bx, e, blk_below h hb⟩
set_option maxRecDepth 100000 in
set_option maxHeartbeats 400000 in
theorem backward_fn (bs os cs : Nat) (w : World) :
  Calls Try.prog 77 #[.slice (some ⟨bs, os, none⟩) (1) (cs)] w (fun e w' => ∃ v, e = .returned v ∧ BwV v bs os cs w' ∧ Below w.heap.size w w') := by
 refine calls_fr Try.func77 Try.ntmps77 rfl rfl fun g hg => ?_
 have k0 : g 0 = .slice (some ⟨bs, os, none⟩) (1) (cs) := hg 0
 clear hg
 have fB0 : Below w.heap.size w w := Below.refl _ _
 refine wp_seq_k fun K1 hK1 => ?_
 refine region_dk 2 [(1, 0), (2, 1)] [[], []] (rel [bx 0 #[.slice (some ⟨bs, os, none⟩) (1) (cs)] 30,
   is (.nilFunc)])
  ⟨bx_k, is_k, trivial⟩
  ⟨fun f s W c d h i j a => opb rfl rfl (by simp [go_sem, a.e 0 k0]),
  fun f s W c d h i j a => opv rfl rfl (by simp [go_sem]) rfl, trivial⟩ ?_
 intro f1 s1 W1 hB1 g1 hg1
 have fB1 := hB1.f fB0
 have z1 := hB1.below.size
 obtain ⟨r1_0, br1_0⟩ := hB1.is 0
 have lr1_0 := hB1.lr 0 br1_0
 refine hK1 _ _ ?_
 have k1_1 := kt hg1 1 r1_0
 have k1_2 := kt hg1 2 (hB1.is 1)
 refine wp_seq_k fun K2 hK2 => ?_
 refine region_dk 2 [(3, 0), (2, 1)] [[], [0]] (rel [is (.func (.func 96) #[] #[.pointer (some ⟨(s1 0), 0, none⟩)]),
   is (.func (.func 96) #[] #[.pointer (some ⟨(s1 0), 0, none⟩)])])
  ⟨is_k, is_k, trivial⟩
  ⟨fun f s W c d h i j a => opv rfl rfl (by simp [go_sem, a.e 1 k1_1]) rfl,
  fun f s W c d h i j a => opv rfl rfl (by simp [go_sem, a.e 3 (d 0 rfl)]) rfl, trivial⟩ ?_
 intro f2 s2 W2 hB2 g2 hg2
 have fB2 := hB2.f fB1
 have z2 := hB2.below.size
 have b2_0 := hB2.b br1_0
 refine hK2 _ _ ?_
 have k2_2 := kt hg2 2 (hB2.is 1)
 refine wp_ret ?_
 refine leave_one (N := 4) (v := .func (.func 96) #[] #[.pointer (some ⟨(s1 0), 0, none⟩)]) (.inr rfl) Try.results77 rfl k2_2 ?_
 exact ⟨_, rfl, ⟨_, rfl, b2_0⟩, fB2⟩
set_option maxRecDepth 100000 in
set_option maxHeartbeats 8000000 in
theorem stretches_A (q : Qu) (bs os cs : Nat) (l : Nat) (SS : Nat → Prop) (J : Nat → World → Prop) (w v1 : World) (hR : StepR w bs os q) (hq : QuIn q) (hB0 : Below w.heap.size w v1) (hJb : ∀ i W W', J i W → Below v1.heap.size W W' → J i W') (hJ0 : J 0 v1) (hY : ∀ W, J 0 W → YieldAt Fence.wide 6 Try.prog l #[.agg #[.int .i64 q.sf, .int .i64 100000]] W fun e W' => e = .returned (.bool false) ∧ J 1 W' ∧ KeepP SS W W') (hS : ∀ b, SS b → w.heap.size ≤ b) (hS2 : ∀ b, SS b → b < v1.heap.size) :
    Calls Try.prog 53 #[.agg #[.int .i64 q.ar, .int .i64 q.bo, .int .i64 q.wa, .int .i64 q.tl, .int .i64 q.se, .int .i64 q.ru, .int .i64 q.wo, .int .i64 q.pl, .int .i64 q.fr, .int .i64 q.ma, .slice (some ⟨bs, os, none⟩) (1) (cs)], .func (.yield l) #[] #[]] v1 (fun e w' => (∃ v, e = .returned v) ∧ J 1 w') := by
  have hz0 := hB0.size
  refine calls_frM (n := 9) Try.func53 Try.ntmps53 rfl rfl fun g hg => ?_
  have k0 : g 0 = .agg #[.int .i64 q.ar, .int .i64 q.bo, .int .i64 q.wa, .int .i64 q.tl, .int .i64 q.se, .int .i64 q.ru, .int .i64 q.wo, .int .i64 q.pl, .int .i64 q.fr, .int .i64 q.ma, .slice (some ⟨bs, os, none⟩) (1) (cs)] := hg 0
  have k1 : g 1 = .func (.yield l) #[] #[] := hg 1
  clear hg
  have fB0 : Below w.heap.size w v1 := hB0
  refine wp_seq_k fun K1 hK1 => ?_
  refine region_dk 2 [(2, 0), (3, 1)] [[], []] (rel [bx 0 #[.int .i64 q.ar, .int .i64 q.bo, .int .i64 q.wa, .int .i64 q.tl, .int .i64 q.se, .int .i64 q.ru, .int .i64 q.wo, .int .i64 q.pl, .int .i64 q.fr, .int .i64 q.ma, .slice (some ⟨bs, os, none⟩) (1) (cs)] 86,
      bx 1 #[.func (.yield l) #[] #[]] 139])
    ⟨bx_k, bx_k, trivial⟩
    ⟨fun f s W c j k m r a => opb rfl rfl (by simp [go_sem, a.e 0 k0]),
    fun f s W c j k m r a => opb rfl rfl (by simp [go_sem, a.e 1 k1]), trivial⟩ ?_
  intro f1 s1 W1 hB1 g1 hg1
  have fB1 := hB1.f fB0
  have z1 := hB1.below.size
  have q1' := (below_trans (Below.refl v1.heap.size v1) hB1.below)
  obtain ⟨r1_0, br1_0⟩ := hB1.is 0
  have lr1_0 := hB1.lr 0 br1_0
  obtain ⟨r1_1, br1_1⟩ := hB1.is 1
  have lr1_1 := hB1.lr 1 br1_1
  have ne1_0_1 := hB1.nb 0 1
  refine hK1 _ _ ?_
  have k1_2 := kt hg1 2 r1_0
  have k1_3 := kt hg1 3 r1_1
  refine wp_seq_k fun K2 hK2 => ?_
  refine region_dk 1 [(4, 0)] [[], [0]] (rel [bx 0 #[.int .i64 0] 3])
    ⟨bx_k, trivial⟩
    ⟨fun f s W c j k m r a => opb rfl rfl (by simp [go_sem]), trivial⟩ ?_
  intro f2 s2 W2 hB2 g2 hg2
  have fB2 := hB2.f fB1
  have z2 := hB2.below.size
  have b2_0 := hB2.b br1_0
  have b2_1 := hB2.b br1_1
  have q2' := (hB2.f q1')
  obtain ⟨r2_0, br2_0⟩ := hB2.is 0
  have lr2_0 := hB2.lr 0 br2_0
  have k2_2 := kt hg2 2 k1_2
  have k2_3 := kt hg2 3 k1_3
  have k2_4 := kt hg2 4 r2_0
  obtain ⟨W3, hW3⟩ : ∃ W', W' = W2.setRow (s2 0) #[.int .i64 100000] := ⟨_, rfl⟩
  refine tail_skip (o := _) rfl ⟨rfl, rfl⟩ (run_seg hW3 (fr_ev k2_4) (rfl) br2_0 rfl rfl rfl rfl) ?_
  obtain ⟨fB3, nb3, ot3, z3⟩ := seg_facts hW3 fB2 br2_0 (by omega)
  have q3' := (seg_facts hW3 q2' br2_0 (by omega)).1
  clear hW3
  have b3_0 := ot3 _ _ (by omega) b2_0
  have b3_1 := ot3 _ _ (by omega) b2_1
  refine wpOps_end ?_
  refine hK2 _ _ ?_
  refine wp_seq_k fun K3 hK3 => ?_
  refine wp_seq_k fun K4 hK4 => ?_
  refine region_dk 4 [(7, 0), (8, 1), (9, 2), (10, 3)] [[], [0], [0, 1], [0, 1, 2]] (rel [is (.pointer (some ⟨(s1 0), 0, none⟩)),
      is (.pointer (some ⟨(s1 0), 10, none⟩)),
      is (.slice (some ⟨bs, os, none⟩) (1) (cs)),
      ab fun v W => BwV v bs os cs W])
    ⟨is_k, is_k, is_k, ab_k fun v W W' hb h => h.below hb, trivial⟩
    ⟨fun f s W c j k m r a => opv rfl rfl (by simp [go_sem, a.e 2 k2_2]) rfl,
    fun f s W c j k m r a => opv rfl rfl (by simp [go_sem, a.e 7 (j 0 rfl)]) rfl,
    fun f s W c j k m r a => opv rfl rfl (by simp [go_sem, a.e 8 (j 1 rfl), cb b3_0 c 10]) rfl,
    fun f s W c j k m r a => opDo_call rfl rfl (by simp [go_sem, a.e 9 (j 2 rfl)]) (backward_fn bs os cs W) ((fun e W' h => by obtain ⟨v, e1, h1, h2⟩ := h; exact ⟨_, e1, h2, h1⟩)), trivial⟩ ?_
  intro f4 s4 W4 hB4 g4 hg4
  have fB4 := hB4.f fB3
  have z4 := hB4.below.size
  have b4_0 := hB4.b b3_0
  have b4_1 := hB4.b b3_1
  have b4_2 := hB4.b nb3
  have q4' := (hB4.f q3')
  obtain ⟨bx5, r4_3, q6'⟩ := hB4.is 3
  refine hK4 _ _ ?_
  have k4_3 := kt hg4 3 k2_3
  have k4_4 := kt hg4 4 k2_4
  have k4_10 := kt hg4 10 r4_3
  refine wp_block ?_
  have hl3 := lt_of_blk b4_1
  have hl4 := lt_of_blk b4_2
  have hlx := lt_of_blk q6'
  have hz9 : v1.heap.size ≤ W4.heap.size := by omega
  obtain ⟨I, hI⟩ : ∃ I : Nat → World → Prop, (fun i W => (i = 0 → J 0 W) ∧ (i = 1 → J 1 W) ∧ Below w.heap.size w W ∧ W4.heap.size ≤ W.heap.size ∧ W.heap[(s1 1)]? = some (.cells #[.func (.yield l) #[] #[]] 139 (0, 0)) ∧ W.heap[(s2 0)]? = some (.cells #[.int .i64 100000] 3 (0, 0))) = I := ⟨_, rfl⟩
  obtain ⟨AA, hA⟩ : ∃ A : Nat → Act → World → Prop, (fun i a' W => ∃ (g' : Nat → Value) (b6 : Nat), a' = fr 29 g' ∧ g' 3 = .pointer (some ⟨(s1 1), 0, none⟩) ∧ g' 4 = .pointer (some ⟨(s2 0), 0, none⟩) ∧ g' 6 = .pointer (some ⟨b6, 0, none⟩) ∧ W4.heap.size + 1 < b6 ∧ W.heap[b6]? = some (.cells #[.int .i64 q.sf, .int .i64 q.so] 82 (0, 0))) = A := ⟨_, rfl⟩
  refine (wpIn_wide (n := 9)).1 (range_ret (n := 9) (gf := 96) (rcv := #[]) (lb := #[.pointer (some ⟨bx5, 0, none⟩)]) ((fr_eval rfl).trans k4_10) (enters_of Try.func96 (by kernel_rfl) rfl) 0 (fun _ => #[.int .i64 0, .agg #[.int .i64 q.sf, .int .i64 q.so]]) (fun _ => rfl) SS I ?hIb ?hIp ?hit ?h0 AA ?hAp ?hassign ?hS ?hbody ?hbodym ?hstop)
  case hIb =>
    subst hI
    rintro i B X Y hB ⟨h1, h2, h3, h4, h5, h6⟩ hb
    exact ⟨fun e => hJb 0 _ _ (h1 e) (hb.mono (by omega)), fun e => hJb 1 _ _ (h2 e) (hb.mono (by omega)), h3.trans (hb.mono (by have := hB0.size; omega)), Nat.le_trans h4 hb.size, (hb.block _ (by omega)).trans h5, (hb.block _ (by omega)).trans h6⟩
  case hIp =>
    subst hI
    rintro i X l' o hl ⟨h1, h2, h3, h4, h5, h6⟩
    have hb : Below W4.heap.size X (X.putObj l' o) := below_put hl
    exact ⟨fun e => hJb 0 _ _ (h1 e) (hb.mono (by omega)), fun e => hJb 1 _ _ (h2 e) (hb.mono (by omega)), h3.trans (hb.mono (by have := hB0.size; omega)), Nat.le_trans h4 hb.size, (hb.block _ (by omega)).trans h5, (hb.block _ (by omega)).trans h6⟩
  case hit =>
    intro l' W1' J' hll hb1 hJ' hYi hYm hJ0'
    refine (callsIn_wide.2 (backward_false q bs os cs l' bx5 (fun b => SS b ∨ b = l') (fun i X => J' i X ∧ W1'.heap.size ≤ X.heap.size) w W1' hR (Below.trans fB4 (hb1.mono (fB4).size)) (blk_below q6' hb1) (fun i X Y h hb => ⟨hJ' i X Y h.1 (hb.mono h.2), Nat.le_trans h.2 hb.size⟩) ⟨hJ0', Nat.le_refl _⟩ (fun X h => (hYm X h.1).mono fun e Y hh => ⟨hh.1, ⟨hh.2.1, Nat.le_trans h.2 hh.2.2.size⟩, hh.2.2⟩) (fun b hb => hb.elim (hS b) (fun e => by have := hB0.size; omega)))).mono fun e Y hh => ⟨hh.1, hh.2.1⟩
  case h0 =>
    subst hI
    exact ⟨fun _ => (hJb 0 _ _ hJ0 q4'), fun e => by omega, fB4, Nat.le_refl _, b4_1, b4_2⟩
  case hAp =>
    subst hA
    rintro i a' X o ⟨g', b6, h1, h2, h3, h4, h5, h6⟩
    exact ⟨g', b6, h1, h2, h3, h4, h5, (World.putObj_heap_other (by omega)).trans h6⟩
  case hassign =>
    intro l' i X K hIX hsz hK
    have e : ({ tmps := ((#[11, 12] : Array Tmp).zip #[.int .i64 0, .agg #[.int .i64 q.sf, .int .i64 q.so]]).foldl (fun t (p, v) => t.setIfInBounds p v) (fr 29 g4).tmps, defers := [] } : Act) = fr 29 (upd (upd g4 11 (.int .i64 0)) 12 (.agg #[.int .i64 q.sf, .int .i64 q.so])) := by
      rw [← fr_set, show (fr 29 (upd g4 11 (.int .i64 0))).tmps = (fr 29 g4).tmps.setIfInBounds 11 (.int .i64 0) from congrArg Act.tmps fr_set.symm]
      rw [foldl_two]
    rw [e]
    obtain ⟨g7, hg7⟩ : ∃ g7, upd (upd g4 11 (.int .i64 0)) 12 (.agg #[.int .i64 q.sf, .int .i64 q.so]) = g7 := ⟨_, rfl⟩
    rw [hg7]
    have k7_3 : g7 3 = .pointer (some ⟨(s1 1), 0, none⟩) := (congrFun hg7.symm 3).trans ((upd_other _ _ (by decide)).trans ((upd_other _ _ (by decide)).trans k4_3))
    have k7_4 : g7 4 = .pointer (some ⟨(s2 0), 0, none⟩) := (congrFun hg7.symm 4).trans ((upd_other _ _ (by decide)).trans ((upd_other _ _ (by decide)).trans k4_4))
    have k7_12 : g7 12 = .agg #[.int .i64 q.sf, .int .i64 q.so] := kt hg7 12 (upd_same _ _ _)
    have hbX : Below w.heap.size w X := by subst hI; exact hIX.2.2.1
    have hzX : W4.heap.size ≤ X.heap.size := by subst hI; exact hIX.2.2.2.1
    refine region_doI noOut_false (by kernel_rfl) 1 [(6, 0)] [[], [0]] (rel [bx 0 #[.int .i64 0, .int .i64 0] 82]) (by kernel_rfl) (by kernel_rfl) (by kernel_rfl) (by kernel_rfl)
      ⟨bx_k, trivial⟩
      ⟨fun f s W c j k m r a => opb rfl rfl (by simp [go_sem]), trivial⟩ ?_
    intro f21 s21 W21 hB21
    have fB21 := hB21.f hbX
    have z21 := hB21.below.size
    have q7' := (below_trans (Below.refl X.heap.size X) hB21.below)
    obtain ⟨r21_0, br21_0⟩ := hB21.is 0
    have lr21_0 := hB21.lr 0 br21_0
    generalize hg21 : ov [(6, 0)] f21 g7 = g21
    have k21_3 := kt hg21 3 k7_3
    have k21_4 := kt hg21 4 k7_4
    have k21_12 := kt hg21 12 k7_12
    have k21_6 := kt hg21 6 r21_0
    obtain ⟨W22, hW22⟩ : ∃ W', W' = W21.setRow (s21 0) #[.int .i64 q.sf, .int .i64 q.so] := ⟨_, rfl⟩
    refine tail_skip (o := _) rfl ⟨rfl, rfl⟩ (run_seg hW22 (fr_ev k21_6) (fr_ev k21_12) br21_0 rfl rfl rfl rfl) ?_
    obtain ⟨fB22, nb22, ot22, z22⟩ := seg_facts hW22 fB21 br21_0 (by omega)
    have q8' := (seg_facts hW22 q7' br21_0 (by omega)).1
    clear hW22
    refine wpOps_end ?_
    refine hK _ _ q8' ?_ ?_
    · subst hI; obtain ⟨h1, h2, h3, h4, h5, h6⟩ := hIX; have hb := q8'; exact ⟨fun e => hJb 0 _ _ (h1 e) (hb.mono (by omega)), fun e => hJb 1 _ _ (h2 e) (hb.mono (by omega)), h3.trans (hb.mono (by omega)), Nat.le_trans h4 hb.size, (hb.block _ (by omega)).trans h5, (hb.block _ (by omega)).trans h6⟩
    · subst hA; exact ⟨_, _, rfl, k21_3, k21_4, k21_6, (by omega), nb22⟩
  case hS => exact fun b hb => by have := hS2 b hb; omega
  case hbody => intro _ i _ _ hi; omega
  case hbodym =>
    intro l' a' X hIX hAX
    subst hI hA; obtain ⟨h1, h2, h3, h4, h5, h6⟩ := hIX; obtain ⟨g7, b6, rfl, k3, k4, k6, hb6, hx6⟩ := hAX
    refine wpIn_block (wpIn_seq (wpIn_seq (wpIn_region ?_)))
    show wpOpsIn (Fence.wide.inRound l') _ _ _ _ [0, 1, 2, 3, 4, 5, 6] _ _
    refine inQ_value (o := _) rfl rfl (fun _ h => nomatch h) rfl (v := .func (.yield l) #[] #[]) (by simp [go_sem, frv 29 k3, cl h5 0]) ?_
    generalize hg41 : upd g7 13 (.func (.yield l) #[] #[]) = g41
    have k41_3 := ku hg41 3 k3
    have k41_4 := ku hg41 4 k4
    have k41_6 := ku hg41 6 k6
    have k41_13 := kt hg41 13 (upd_same _ _ _)
    refine inQ_value (o := _) rfl rfl (fun _ h => nomatch h) rfl (v := .pointer (some ⟨b6, 0, none⟩)) (by simp [go_sem, frv 29 k41_6]) ?_
    generalize hg42 : upd g41 14 (.pointer (some ⟨b6, 0, none⟩)) = g42
    have k42_3 := ku hg42 3 k41_3
    have k42_4 := ku hg42 4 k41_4
    have k42_6 := ku hg42 6 k41_6
    have k42_13 := ku hg42 13 k41_13
    have k42_14 := kt hg42 14 (upd_same _ _ _)
    refine inQ_value (o := _) rfl rfl (fun _ h => nomatch h) rfl (v := .int .i64 q.sf) (by simp [go_sem, frv 29 k42_14, cl hx6 0]) ?_
    generalize hg43 : upd g42 15 (.int .i64 q.sf) = g43
    have k43_3 := ku hg43 3 k42_3
    have k43_4 := ku hg43 4 k42_4
    have k43_6 := ku hg43 6 k42_6
    have k43_13 := ku hg43 13 k42_13
    have k43_15 := kt hg43 15 (upd_same _ _ _)
    refine inQ_value (o := _) rfl rfl (fun _ h => nomatch h) rfl (v := .int .i64 100000) (by simp [go_sem, frv 29 k43_4, cl h6 0]) ?_
    generalize hg44 : upd g43 16 (.int .i64 100000) = g44
    have k44_3 := ku hg44 3 k43_3
    have k44_4 := ku hg44 4 k43_4
    have k44_6 := ku hg44 6 k43_6
    have k44_13 := ku hg44 13 k43_13
    have k44_15 := ku hg44 15 k43_15
    have k44_16 := kt hg44 16 (upd_same _ _ _)
    refine inQ_value (o := _) rfl rfl (fun _ h => nomatch h) rfl (v := .agg #[.int .i64 q.sf, .int .i64 100000]) (by simp [go_sem, frv 29 k44_15, frv 29 k44_16]) ?_
    generalize hg45 : upd g44 17 (.agg #[.int .i64 q.sf, .int .i64 100000]) = g45
    have k45_3 := ku hg45 3 k44_3
    have k45_4 := ku hg45 4 k44_4
    have k45_6 := ku hg45 6 k44_6
    have k45_13 := ku hg45 13 k44_13
    have k45_17 := kt hg45 17 (upd_same _ _ _)
    refine inQ_round (o := _) (d := 18) rfl rfl (fun _ h => nomatch h) rfl (l := l) (args := #[.agg #[.int .i64 q.sf, .int .i64 100000]]) (by simp [go_sem, frv 29 k45_13, frv 29 k45_17]) (hY X (h1 rfl)) ?_ (fun _ h => nomatch h.1) (fun _ _ h => nomatch h.1)
    rintro v_ Y ⟨rv, jj, kx⟩
    obtain rfl := Ending.returned.inj rv
    generalize hg46 : upd g45 18 (.bool false) = g46
    have k46_3 := ku hg46 3 k45_3
    have k46_4 := ku hg46 4 k45_4
    have k46_6 := ku hg46 6 k45_6
    have k46_18 := kt hg46 18 (upd_same _ _ _)
    refine inQ_value (o := _) rfl rfl (fun _ h => nomatch h) rfl (v := .bool true) (by simp [go_sem, frv 29 k46_18]) ?_
    generalize hg47 : upd g46 19 (.bool true) = g47
    have k47_3 := ku hg47 3 k46_3
    have k47_4 := ku hg47 4 k46_4
    have k47_6 := ku hg47 6 k46_6
    have k47_19 := kt hg47 19 (upd_same _ _ _)
    have kz := kx.size
    exact wpIn_cond_true ((fr_eval rfl).trans k47_19) (wpIn_ret ⟨rfl, ⟨fun e => by omega, fun _ => jj, Below.trans h3 (kx.below hS h3.size), by omega, kx.block _ _ (fun h => by have := hS2 _ h; omega) h5, kx.block _ _ (fun h => by have := hS2 _ h; omega) h6⟩, kx⟩)
  case hstop =>
    intro D X hD hIX hDX
    subst hI; obtain ⟨h1, h2, h3, h4, h5, h6⟩ := hIX
    refine wpIn_ret ?_
    refine leave_mark (v := .tuple #[]) (.inr rfl) rfl rfl hDX (fun W' => by simp [results, Try.results53, go_sem]) ?_
    exact ⟨⟨_, rfl⟩, hJb 1 _ _ (h2 rfl) (below_put (by omega))⟩
end Go.Proofs.Ytolnpbpeifpbjaa
