/- Part of the proof: what the claim leans on. -/
import Derived.Test.YtiocklgakklkpaaNAK
import Derived.Test.YtiocklgakklkpaaNAH
set_option linter.unusedSimpArgs false
set_option linter.unusedVariables false
namespace Go.Proofs.Ytiocklgakklkpaa
open Go.RowKit
def IsKi (n : Nat) (xs : List Int) (v : Value) (W : World) : Prop := ∃ a c, v = .slice (some ⟨a, 0, none⟩) n c ∧ Ii W (some ⟨a, 0, none⟩) n c xs
theorem IsKi.below {n : Nat} {xs : List Int} {v : Value} {W W' : World} (h : IsKi n xs v W) (hb : Below W.heap.size W W') : IsKi n xs v W' := by
  obtain ⟨a, c, e, h⟩ := h; exact ⟨a, c, e, h.below hb (Nat.le_refl _)⟩
theorem owns_iiT {W : World} {B : Nat} {T : TypeId} {g n c : Nat} {xs : List Int} (h : W.ownsRow B T 1 (.slice (some ⟨g, 0, none⟩) n c) n (xs.map (Value.int .i64))) : Ii W (some ⟨g, 0, none⟩) n c xs := by
  obtain ⟨h1, h2⟩ := h
  have hn : n = xs.length := by simpa using h1.symm
  rcases h2 with ⟨e, -⟩ | ⟨g', cap, cur, e, h3, h4, h5, h6, h7, h8⟩
  · cases e
  · cases e
    refine ⟨hn, by omega, h6, by simp, .inr ⟨g, 0, rfl, lt_of_blk h4, fun i hi => ?_⟩⟩
    rw [Joins.cell_of_block h4 (0 + i), Nat.zero_add]
    have h9 := congrArg (·[i]?) h8
    rw [List.getElem?_take_of_lt (by rw [List.length_map] at hi; omega), Array.getElem?_toList] at h9
    rw [h9, List.getD_eq_getElem?_getD, List.getElem?_eq_getElem hi]; rfl
theorem ii_cell {W : World} {b o n c : Nat} {xs : List Int} (h : Ii W (some ⟨b, o, none⟩) n c xs) (i : Nat) (hi : i < xs.length) : W.cell? ⟨b, o + i, none⟩ = some (.int .i64 (xs.getD i 0)) := by
  obtain ⟨b', o', e, -, hc⟩ := h.at (by omega)
  cases e
  exact hc i hi
theorem ownV_one {T : TypeId} {B b : Nat} {x : Int} {W : World} (h : W.heap[b]? = some (.cells #[.int .i64 x] T (0, 0))) (hb : B ≤ b) : OwnV T 1 B (iis [x]) 1 (some ⟨b, 0, none⟩) 1 W := by
  have := lt_of_blk h
  exact ⟨by omega, fun y e => by cases e; exact ⟨hb, this⟩, by simp [iis], .inr ⟨b, 1, _, rfl, hb, h, Nat.le_refl _, by unfold maxLen; omega, by simp, by simp [iis]⟩⟩
set_option maxRecDepth 100000 in
set_option maxHeartbeats 4000000 in
theorem kinds_1 (w : World) :
  Calls Try.prog 62 #[.int .i64 1] w (fun e w' => ∃ v, e = .returned v ∧ IsKi 3 [1, 2, 1] v w' ∧ Below w.heap.size w w') := by
 refine calls_fr Try.func62 Try.ntmps62 rfl rfl fun g hg => ?_
 have k0 : g 0 = .int .i64 1 := hg 0
 clear hg
 have fB0 : Below w.heap.size w w := Below.refl _ _
 refine wp_seq_k fun K1 hK1 => ?_
 refine region_dk 1 [(2, 0)] [[]] (rel [is (.slice (none) (0) (0))])
  ⟨is_k, trivial⟩
  ⟨fun f s W b d h i j a => opv rfl rfl (by simp [go_sem]) rfl, trivial⟩ ?_
 intro f1 s1 W1 hB1 g1 hg1
 have fB1 := hB1.f fB0
 have z1 := hB1.below.size
 refine hK1 _ _ ?_
 have k1_0 := kt hg1 0 k0
 have k1_2 := kt hg1 2 (hB1.is 0)
 refine wp_seq_k fun K2 hK2 => ?_
 refine region_dk 2 [(4, 0), (3, 1)] [[], [0]] (rel [row 0 1 #[.int .i64 1] 65,
   isS fun s => .slice (some ⟨(s 0), 0, none⟩) (1) (1)])
  ⟨row_k, isS_k fun s s' e => by rw [e 0 (by simp)], trivial⟩
  ⟨fun f s W b d h i j a => opr rfl rfl (by simp [go_sem]),
  fun f s W b d h i j a => opv rfl rfl (by simp [go_sem, a.e 4 (d 0 rfl).1, upd]) rfl, trivial⟩ ?_
 intro f2 s2 W2 hB2 g2 hg2
 have fB2 := hB2.f fB1
 have z2 := hB2.below.size
 obtain ⟨r2_0, br2_0⟩ := hB2.is 0
 have lr2_0 := hB2.lr 0 br2_0
 refine hK2 _ _ ?_
 have k2_0 := kt hg2 0 k1_0
 have k2_2 := kt hg2 2 k1_2
 have k2_3 := kt hg2 3 (hB2.is 1)
 have owk : OwnV 65 1 w.heap.size (iis [1]) 1 (some ⟨(s2 0), 0, none⟩) 1 W2 := ownV_one br2_0 (by omega)
 refine wp_seq_k fun K3 hK3 => ?_
 refine wp_seq_k fun K4 hK4 => ?_
 refine region_dk 2 [(5, 0), (6, 1)] [[], []] (rel [is (.int .i64 1),
   is (.int .i64 0)])
  ⟨is_k, is_k, trivial⟩
  ⟨fun f s W b d h i j a => opv rfl rfl (by simp [go_sem, a.e 0 k2_0]) rfl,
  fun f s W b d h i j a => opv rfl rfl (by simp [go_sem]) rfl, trivial⟩ ?_
 intro f3 s3 W3 hB3 g3 hg3
 have fB3 := hB3.f fB2
 have z3 := hB3.below.size
 have q1' := (owk.below hB3.below)
 refine hK4 _ _ ?_
 have k3_2 := kt hg3 2 k2_2
 have k3_3 := kt hg3 3 k2_3
 have k3_5 := kt hg3 5 (hB3.is 0)
 have k3_6 := kt hg3 6 (hB3.is 1)
 refine wp_block ?_
 refine wp_loop_rounds 2 ?_
 rw [rounds_succ]
 refine wp_seq_k fun K5 hK5 => ?_
 refine region_dk 1 [(7, 0)] [[]] (rel [is (.bool true)])
  ⟨is_k, trivial⟩
  ⟨fun f s W b d h i j a => opv rfl rfl (by simp [go_sem, a.e 6 k3_6, a.e 5 k3_5]) rfl, trivial⟩ ?_
 intro f4 s4 W4 hB4 g4 hg4
 have fB4 := hB4.f fB3
 have z4 := hB4.below.size
 have q2' := (q1'.below hB4.below)
 refine hK5 _ _ ?_
 have k4_2 := kt hg4 2 k3_2
 have k4_3 := kt hg4 3 k3_3
 have k4_5 := kt hg4 5 k3_5
 have k4_6 := kt hg4 6 k3_6
 have k4_7 := kt hg4 7 (hB4.is 0)
 refine wp_seq_k fun K6 hK6 => ?_
 refine wp_cond_true ((fr_eval rfl).trans k4_7) ?_
 refine wp_skip ?_
 refine hK6 _ _ ?_
 refine wp_seq_k fun K8 hK8 => ?_
 refine wp_block ?_
 refine region_dk 2 [(8, 0), (9, 1), (10, 2), (3, 3)] [[], [], [0, 1], [0, 1, 2]] (rel [is (.slice (some ⟨(s2 0), 0, none⟩) (1) (1)),
   row 1 2 #[.int .i64 2, .int .i64 1] 65])
  ⟨is_k, row_k, trivial⟩
  ⟨fun f s W b d h i j a => opv rfl rfl (by simp [go_sem, a.e 3 ((i 3 3 rfl rfl).trans k4_3)]) rfl,
  fun f s W b d h i j a => opr rfl rfl (by simp [go_sem]), trivial⟩ ?_
 intro f5 s5 W5 hB5 g5 hg5
 have fB5 := hB5.f fB4
 have z5 := hB5.below.size
 have q3' := (q2'.below hB5.below)
 obtain ⟨r5_1, br5_1⟩ := hB5.is 1
 have lr5_1 := hB5.lr 1 br5_1
 have k5_2 := kt hg5 2 k4_2
 have k5_5 := kt hg5 5 k4_5
 have k5_6 := kt hg5 6 k4_6
 have k5_7 := kt hg5 7 k4_7
 have k5_8 := kt hg5 8 (hB5.is 0)
 have k5_9 := kt hg5 9 r5_1
 obtain ⟨ga6, ca6, W6, ra6, ow6, ot6, z6, fB6⟩ := growV_tail 119 119 65 1 8 (.int .i64 0) Try.underlying119 (by kernel_rfl) rfl (c := 1) (iis ([1, 2, 1])) (3) (k := 2) (c' := 2) [.int .i64 2, .int .i64 1] fB5 q3' rfl rfl (Nat.le_refl _) rfl rfl (cells_at br5_1) (by decide)
 refine tail_value2 (o := _) rfl rfl rfl (run_appendOp (fr_ev k5_8) (fr_ev k5_9) ra6) ?_
 generalize hg6 : upd g5 10 (.slice (some ⟨ga6, 0, none⟩) (3) (ca6)) = g6
 have k6_2 := ku hg6 2 k5_2
 have k6_5 := ku hg6 5 k5_5
 have k6_6 := ku hg6 6 k5_6
 have k6_7 := ku hg6 7 k5_7
 have k6_8 := ku hg6 8 k5_8
 have k6_9 := ku hg6 9 k5_9
 have k6_10 := kt hg6 10 (upd_same _ _ _)
 refine tail_value (o := _) rfl rfl rfl (v := .slice (some ⟨ga6, 0, none⟩) (3) (ca6)) (by simp [go_sem, frv 13 k6_10]) ?_
 generalize hg7 : upd g6 3 (.slice (some ⟨ga6, 0, none⟩) (3) (ca6)) = g7
 have k7_2 := ku hg7 2 k6_2
 have k7_5 := ku hg7 5 k6_5
 have k7_6 := ku hg7 6 k6_6
 have k7_7 := ku hg7 7 k6_7
 have k7_8 := ku hg7 8 k6_8
 have k7_9 := ku hg7 9 k6_9
 have k7_10 := ku hg7 10 k6_10
 have k7_3 := kt hg7 3 (upd_same _ _ _)
 refine wpOps_end ?_
 refine inBlock_normal ?_
 refine hK8 _ _ ?_
 refine region_dk 2 [(11, 0), (6, 1)] [[], [0]] (rel [is (.int .i64 1),
   is (.int .i64 1)])
  ⟨is_k, is_k, trivial⟩
  ⟨fun f s W b d h i j a => opv rfl rfl (by simp [go_sem, a.e 6 ((i 1 6 rfl rfl).trans k7_6), IntWalk.i64_in (1) (by omega)]) rfl,
  fun f s W b d h i j a => opv rfl rfl (by simp [go_sem, a.e 11 (d 0 rfl)]) rfl, trivial⟩ ?_
 intro f8 s8 W8 hB8 g8 hg8
 have fB8 := hB8.f fB6
 have z8 := hB8.below.size
 have q4' := (ow6.below hB8.below)
 refine wpOps_end ?_
 have k8_2 := kt hg8 2 k7_2
 have k8_5 := kt hg8 5 k7_5
 have k8_7 := kt hg8 7 k7_7
 have k8_8 := kt hg8 8 k7_8
 have k8_9 := kt hg8 9 k7_9
 have k8_10 := kt hg8 10 k7_10
 have k8_3 := kt hg8 3 k7_3
 have k8_6 := kt hg8 6 (hB8.is 1)
 refine then_normal ?_
 rw [rounds_succ]
 refine wp_seq_k fun K9 hK9 => ?_
 refine region_dk 1 [(7, 0)] [[]] (rel [is (.bool false)])
  ⟨is_k, trivial⟩
  ⟨fun f s W b d h i j a => opv rfl rfl (by simp [go_sem, a.e 6 k8_6, a.e 5 k8_5]) rfl, trivial⟩ ?_
 intro f9 s9 W9 hB9 g9 hg9
 have fB9 := hB9.f fB8
 have z9 := hB9.below.size
 have q5' := (q4'.below hB9.below)
 refine hK9 _ _ ?_
 have k9_2 := kt hg9 2 k8_2
 have k9_5 := kt hg9 5 k8_5
 have k9_8 := kt hg9 8 k8_8
 have k9_9 := kt hg9 9 k8_9
 have k9_10 := kt hg9 10 k8_10
 have k9_3 := kt hg9 3 k8_3
 have k9_6 := kt hg9 6 k8_6
 have k9_7 := kt hg9 7 (hB9.is 0)
 refine wp_seq_k fun K10 hK10 => ?_
 refine wp_cond_false ((fr_eval rfl).trans k9_7) ?_
 refine wp_exit ?_
 refine then_exit ?_
 refine then_exit ?_
 refine inBlock_at ?_
 refine hK3 _ _ ?_
 refine wp_seq_k fun K12 hK12 => ?_
 refine region_dk 2 [(12, 0), (2, 1)] [[], [0]] (rel [is (.slice (some ⟨ga6, 0, none⟩) (3) (ca6)),
   is (.slice (some ⟨ga6, 0, none⟩) (3) (ca6))])
  ⟨is_k, is_k, trivial⟩
  ⟨fun f s W b d h i j a => opv rfl rfl (by simp [go_sem, a.e 3 k9_3]) rfl,
  fun f s W b d h i j a => opv rfl rfl (by simp [go_sem, a.e 12 (d 0 rfl)]) rfl, trivial⟩ ?_
 intro f10 s10 W10 hB10 g10 hg10
 have fB10 := hB10.f fB9
 have z10 := hB10.below.size
 have q6' := (q5'.below hB10.below)
 refine hK12 _ _ ?_
 have k10_2 := kt hg10 2 (hB10.is 1)
 refine wp_ret ?_
 refine leave_one (N := 13) (v := .slice (some ⟨ga6, 0, none⟩) (3) (ca6)) (.inr rfl) Try.results62 rfl k10_2 ?_
 exact ⟨_, rfl, ⟨_, _, rfl, owns_iiT (xs := [1, 2, 1]) q6'.2.2⟩, fB10⟩
set_option maxRecDepth 100000 in
set_option maxHeartbeats 2000000 in
theorem isForm_1 (ax af : Option Addr) (cx cf : Nat) (w : World) :
  Calls Try.prog 60 #[.agg #[.slice (ax) (3) (cx), .slice (af) (1) (cf)]] w (fun e w' => e = .returned (.bool true) ∧ Below w.heap.size w w') := by
 refine calls_fr Try.func60 Try.ntmps60 rfl rfl fun g hg => ?_
 have k0 : g 0 = .agg #[.slice (ax) (3) (cx), .slice (af) (1) (cf)] := hg 0
 clear hg
 have fB0 : Below w.heap.size w w := Below.refl _ _
 refine wp_seq_k fun K1 hK1 => ?_
 refine region_dk 2 [(1, 0), (2, 1)] [[], []] (rel [bx 0 #[.slice (ax) (3) (cx), .slice (af) (1) (cf)] 46,
   is (.bool false)])
  ⟨bx_k, is_k, trivial⟩
  ⟨fun f s W i j k l m a => opb rfl rfl (by simp [go_sem, a.e 0 k0]),
  fun f s W i j k l m a => opv rfl rfl (by simp [go_sem]) rfl, trivial⟩ ?_
 intro f1 s1 W1 hB1 g1 hg1
 have fB1 := hB1.f fB0
 have z1 := hB1.below.size
 obtain ⟨r1_0, br1_0⟩ := hB1.is 0
 have lr1_0 := hB1.lr 0 br1_0
 refine hK1 _ _ ?_
 have k1_1 := kt hg1 1 r1_0
 have k1_2 := kt hg1 2 (hB1.is 1)
 refine wp_seq_k fun K2 hK2 => ?_
 refine region_dk 17 [(3, 0), (4, 1), (5, 2), (6, 3), (7, 4), (8, 5), (9, 6), (10, 7), (11, 8), (12, 9), (13, 10), (14, 11), (15, 12), (16, 13), (17, 14), (18, 15), (2, 16)] [[], [0], [0, 1], [0, 1, 2], [0, 1, 2, 3], [0, 1, 2, 3, 4], [0, 1, 2, 3, 4, 5], [0, 1, 2, 3, 4, 5, 6], [0, 1, 2, 3, 4, 5, 6, 7], [0, 1, 2, 3, 4, 5], [0, 1, 2, 3, 4, 5, 9], [0, 1, 2, 3, 4, 5, 9, 10], [0, 1, 2, 3, 4, 5, 9, 10, 11], [0, 1, 2, 3, 4, 5, 9, 10, 11, 12], [0, 1, 2, 3, 4, 5, 6, 7, 8, 9, 10, 11, 12, 13], [0, 1, 2, 3, 4, 5, 6, 7, 8, 9, 10, 11, 12, 13, 14], [0, 1, 2, 3, 4, 5, 6, 7, 8, 9, 10, 11, 12, 13, 14, 15]] (rel [is (.pointer (some ⟨(s1 0), 1, none⟩)),
   is (.slice (af) (1) (cf)),
   is (.int .i64 1),
   row 3 1 #[.int .i64 1] 3,
   is (.bool true),
   is (.bool true),
   is (.pointer (some ⟨(s1 0), 0, none⟩)),
   is (.slice (ax) (3) (cx)),
   is (.int .i64 3),
   is (.pointer (some ⟨(s1 0), 1, none⟩)),
   is (.slice (af) (1) (cf)),
   is (.int .i64 1),
   ab fun v W => IsKi 3 [1, 2, 1] v W,
   is (.int .i64 3),
   is (.bool true),
   is (.bool true),
   is (.bool true)])
  ⟨is_k, is_k, is_k, row_k, is_k, is_k, is_k, is_k, is_k, is_k, is_k, is_k, ab_k fun v W W' hb h => h.below hb, is_k, is_k, is_k, is_k, trivial⟩
  ⟨fun f s W i j k l m a => opv rfl rfl (by simp [go_sem, a.e 1 k1_1]) rfl,
  fun f s W i j k l m a => opv rfl rfl (by simp [go_sem, a.e 3 (j 0 rfl), cb br1_0 i 1]) rfl,
  fun f s W i j k l m a => opv rfl rfl (by simp [go_sem, a.e 4 (j 1 rfl)]) rfl,
  fun f s W i j k l m a => opr rfl rfl (by simp [go_sem, a.e 5 (j 2 rfl)]),
  fun f s W i j k l m a => opc (args := #[.int .i64 1, .int .i64 2, .slice (some ⟨(s 3), 0, none⟩) (1) (1)]) rfl rfl (by simp [go_sem, a.e 6 (j 3 rfl).1]) (bo_within_any 1 2 _ 1 1 [1] W (ii_block (xs := [1]) (j 3 rfl).2 rfl rfl)),
  fun f s W i j k l m a => opv rfl rfl (by simp [go_sem, a.e 7 (j 4 rfl)]) rfl,
  fun f s W i j k l m a => osure rfl rfl (a.says (d := 8) rfl rfl (j 5 rfl)) (gv (by simp [go_sem, a.e 1 k1_1]) rfl),
  fun f s W i j k l m a => osure rfl rfl (a.says (d := 8) rfl rfl (j 5 rfl)) (gv (by simp [go_sem, a.e 9 (j 6 rfl), cb br1_0 i 0]) rfl),
  fun f s W i j k l m a => osure rfl rfl (a.says (d := 8) rfl rfl (j 5 rfl)) (gv (by simp [go_sem, a.e 10 (j 7 rfl)]) rfl),
  fun f s W i j k l m a => osure rfl rfl (a.says (d := 8) rfl rfl (j 5 rfl)) (gv (by simp [go_sem, a.e 1 k1_1]) rfl),
  fun f s W i j k l m a => osure rfl rfl (a.says (d := 8) rfl rfl (j 5 rfl)) (gv (by simp [go_sem, a.e 12 (j 9 rfl), cb br1_0 i 1]) rfl),
  fun f s W i j k l m a => osure rfl rfl (a.says (d := 8) rfl rfl (j 5 rfl)) (gv (by simp [go_sem, a.e 13 (j 10 rfl)]) rfl),
  fun f s W i j k l m a => osure rfl rfl (a.says (d := 8) rfl rfl (j 5 rfl)) (wp_called (by simp [go_sem, a.e 14 (j 11 rfl)]) (kinds_1 W) ((fun e W' h => by obtain ⟨v, e1, h1, h2⟩ := h; exact ⟨_, e1, h2, h1⟩))),
  fun f s W i j k l m a => osure rfl rfl (a.says (d := 8) rfl rfl (j 5 rfl)) (by obtain ⟨a16', c17', d12, q18'⟩ := (j 12 rfl); exact gv (by simp [go_sem, a.e 15 d12]) rfl),
  fun f s W i j k l m a => osure rfl rfl (a.says (d := 8) rfl rfl (j 5 rfl)) (gv (by simp [go_sem, a.e 11 (j 8 rfl), a.e 16 (j 13 rfl)]) rfl),
  fun f s W i j k l m a => opk (c := true) rfl rfl (fun h => absurd h (by decide)) (fun _ => by simp [go_sem, a.e 8 (j 5 rfl), a.e 17 (j 14 rfl)]),
  fun f s W i j k l m a => opv rfl rfl (by simp [go_sem, a.e 18 (j 15 rfl)]) rfl, trivial⟩ ?_
 intro f2 s2 W2 hB2 g2 hg2
 have fB2 := hB2.f fB1
 have z2 := hB2.below.size
 have b2_0 := hB2.b br1_0
 obtain ⟨r2_3, br2_3⟩ := hB2.is 3
 have lr2_3 := hB2.lr 3 br2_3
 refine hK2 _ _ ?_
 have k2_2 := kt hg2 2 (hB2.is 16)
 refine wp_ret ?_
 refine leave_one (N := 19) (v := .bool true) (.inr rfl) Try.results60 rfl k2_2 ?_
 exact ⟨rfl, fB2⟩
set_option maxRecDepth 100000 in
set_option maxHeartbeats 8000000 in
theorem made_1 (ps : Nat → Pa) (qs : Nat → Fu) (bp oP np cp bq oq nq cq : Nat) (tx ux cx tf uf cf pa0 pa1 pa2 fa0 : Nat) (PA0 PA1 PA2 : Pa) (FA0 : Fu) (w : World) (hP : PaR w bp oP np ps) (hQ : FuR w bq oq nq qs) (hpi : ∀ i, i < np → PaIn (ps i)) (hqi : ∀ i, i < nq → FuIn (qs i)) (np1 : 1 ≤ np) (np8 : np ≤ 8) (nq1 : 1 ≤ nq) (nq4 : nq ≤ 4) (hX : Ii w (some ⟨tx, ux, none⟩) 3 cx [(pa0 : Int), (pa1 : Int), (pa2 : Int)]) (hF : Ii w (some ⟨tf, uf, none⟩) 1 cf [(fa0 : Int)]) (hpa0 : pa0 < np) (epa0 : ps pa0 = PA0) (hpa1 : pa1 < np) (epa1 : ps pa1 = PA1) (hpa2 : pa2 < np) (epa2 : ps pa2 = PA2) (hfa0 : fa0 < nq) (efa0 : qs fa0 = FA0) (hk0 : PA0.kind = 1) (hk1 : PA1.kind = 2) (hk2 : PA2.kind = 1) :
  Calls Try.prog 36 #[.agg #[.slice (some ⟨bp, oP, none⟩) (np) (cp), .slice (some ⟨bq, oq, none⟩) (nq) (cq)], .agg #[.slice (some ⟨tx, ux, none⟩) (3) (cx), .slice (some ⟨tf, uf, none⟩) (1) (cf)]] w (fun e w' => e = .returned (.int .i64 0) ∧ Below w.heap.size w w') := by
 have hwX : within 0 ((np : Int) - 1) [(pa0 : Int), (pa1 : Int), (pa2 : Int)] = true := by simp [within]; omega
 have hwF : within 0 ((nq : Int) - 1) [(fa0 : Int)] = true := by simp [within]; omega
 refine calls_fr Try.func36 Try.ntmps36 rfl rfl fun g hg => ?_
 have k0 : g 0 = .agg #[.slice (some ⟨bp, oP, none⟩) (np) (cp), .slice (some ⟨bq, oq, none⟩) (nq) (cq)] := hg 0
 have k1 : g 1 = .agg #[.slice (some ⟨tx, ux, none⟩) (3) (cx), .slice (some ⟨tf, uf, none⟩) (1) (cf)] := hg 1
 clear hg
 have fB0 : Below w.heap.size w w := Below.refl _ _
 refine wp_seq_k fun K1 hK1 => ?_
 refine region_dk 3 [(2, 0), (3, 1), (4, 2)] [[], [], []] (rel [bx 0 #[.slice (some ⟨bp, oP, none⟩) (np) (cp), .slice (some ⟨bq, oq, none⟩) (nq) (cq)] 33,
   bx 1 #[.slice (some ⟨tx, ux, none⟩) (3) (cx), .slice (some ⟨tf, uf, none⟩) (1) (cf)] 46,
   is (.int .i64 0)])
  ⟨bx_k, bx_k, is_k, trivial⟩
  ⟨fun f s W c d j k l a => opb rfl rfl (by simp [go_sem, a.e 0 k0]),
  fun f s W c d j k l a => opb rfl rfl (by simp [go_sem, a.e 1 k1]),
  fun f s W c d j k l a => opv rfl rfl (by simp [go_sem]) rfl, trivial⟩ ?_
 intro f1 s1 W1 hB1 g1 hg1
 have fB1 := hB1.f fB0
 have z1 := hB1.below.size
 obtain ⟨r1_0, br1_0⟩ := hB1.is 0
 have lr1_0 := hB1.lr 0 br1_0
 obtain ⟨r1_1, br1_1⟩ := hB1.is 1
 have lr1_1 := hB1.lr 1 br1_1
 have ne1_0_1 := hB1.nb 0 1
 refine hK1 _ _ ?_
 have k1_2 := kt hg1 2 r1_0
 have k1_3 := kt hg1 3 r1_1
 have k1_4 := kt hg1 4 (hB1.is 2)
 refine wp_seq_k fun K2 hK2 => ?_
 refine wp_seq_k fun K3 hK3 => ?_
 refine region_dk 3 [(8, 0), (9, 1), (5, 2)] [[], [0], [0, 1]] (rel [is (.agg #[.slice (some ⟨bp, oP, none⟩) (np) (cp), .slice (some ⟨bq, oq, none⟩) (nq) (cq)]),
   is (.int .i64 0),
   is (.int .i64 0)])
  ⟨is_k, is_k, is_k, trivial⟩
  ⟨fun f s W c d j k l a => opv rfl rfl (by simp [go_sem, a.e 2 k1_2, cb br1_0 c 0, cb br1_0 c 1]) rfl,
  fun f s W c d j k l a => by have m := below_trans fB1 c; exact opc rfl rfl (by simp [go_sem, a.e 8 (d 0 rfl)]) (boCheck_ok ps qs bp oP np cp bq oq nq cq W (hP.below m) (hQ.below m) hpi hqi np1 np8 nq1 nq4),
  fun f s W c d j k l a => opv rfl rfl (by simp [go_sem, a.e 9 (d 1 rfl)]) rfl, trivial⟩ ?_
 intro f2 s2 W2 hB2 g2 hg2
 have fB2 := hB2.f fB1
 have z2 := hB2.below.size
 have b2_0 := hB2.b br1_0
 have b2_1 := hB2.b br1_1
 refine hK3 _ _ ?_
 have k2_2 := kt hg2 2 k1_2
 have k2_3 := kt hg2 3 k1_3
 have k2_4 := kt hg2 4 k1_4
 have k2_5 := kt hg2 5 (hB2.is 2)
 refine wp_seq_k fun K4 hK4 => ?_
 refine region_dk 2 [(10, 0), (11, 1)] [[], [0]] (rel [is (.int .i64 0),
   is (.bool false)])
  ⟨is_k, is_k, trivial⟩
  ⟨fun f s W c d j k l a => opv rfl rfl (by simp [go_sem, a.e 5 k2_5]) rfl,
  fun f s W c d j k l a => opv rfl rfl (by simp [go_sem, a.e 10 (d 0 rfl)]) rfl, trivial⟩ ?_
 intro f3 s3 W3 hB3 g3 hg3
 have fB3 := hB3.f fB2
 have z3 := hB3.below.size
 have b3_0 := hB3.b b2_0
 have b3_1 := hB3.b b2_1
 refine hK4 _ _ ?_
 have k3_2 := kt hg3 2 k2_2
 have k3_3 := kt hg3 3 k2_3
 have k3_4 := kt hg3 4 k2_4
 have k3_5 := kt hg3 5 k2_5
 have k3_11 := kt hg3 11 (hB3.is 1)
 refine wp_cond_false ((fr_eval rfl).trans k3_11) ?_
 refine wp_skip ?_
 refine hK2 _ _ ?_
 refine wp_seq_k fun K6 hK6 => ?_
 refine wp_block ?_
 refine wp_seq_k fun K7 hK7 => ?_
 refine region_dk 4 [(14, 0), (15, 1), (16, 2), (13, 3)] [[], [0], [0, 1], [0, 1, 2]] (rel [is (.agg #[.slice (some ⟨tx, ux, none⟩) (3) (cx), .slice (some ⟨tf, uf, none⟩) (1) (cf)]),
   is (.bool true),
   is (.bool false),
   is (.bool false)])
  ⟨is_k, is_k, is_k, is_k, trivial⟩
  ⟨fun f s W c d j k l a => opv rfl rfl (by simp [go_sem, a.e 3 k3_3, cb b3_1 c 0, cb b3_1 c 1]) rfl,
  fun f s W c d j k l a => opc (args := #[.agg #[.slice (some ⟨tx, ux, none⟩) (3) (cx), .slice (some ⟨tf, uf, none⟩) (1) (cf)]]) rfl rfl (by simp [go_sem, a.e 14 (d 0 rfl)]) (isForm_1 _ _ cx cf W),
  fun f s W c d j k l a => opv rfl rfl (by simp [go_sem, a.e 15 (d 1 rfl)]) rfl,
  fun f s W c d j k l a => opv rfl rfl (by simp [go_sem, a.e 16 (d 2 rfl)]) rfl, trivial⟩ ?_
 intro f4 s4 W4 hB4 g4 hg4
 have fB4 := hB4.f fB3
 have z4 := hB4.below.size
 have b4_0 := hB4.b b3_0
 have b4_1 := hB4.b b3_1
 refine hK7 _ _ ?_
 have k4_2 := kt hg4 2 k3_2
 have k4_3 := kt hg4 3 k3_3
 have k4_4 := kt hg4 4 k3_4
 have k4_13 := kt hg4 13 (hB4.is 3)
 refine wp_cond_false ((fr_eval rfl).trans k4_13) ?_
 refine wp_seq_k fun K9 hK9 => ?_
 refine wp_seq_k fun K10 hK10 => ?_
 refine region_dk 9 [(18, 0), (19, 1), (20, 2), (21, 3), (22, 4), (23, 5), (24, 6), (25, 7), (17, 8)] [[], [0], [0, 1], [0, 1, 2], [], [4], [0, 1, 2, 3, 4, 5], [0, 1, 2, 3, 4, 5, 6], [0, 1, 2, 3, 4, 5, 6, 7]] (rel [is (.pointer (some ⟨(s1 0), 0, none⟩)),
   is (.slice (some ⟨bp, oP, none⟩) (np) (cp)),
   is (.int .i64 ((np : Int))),
   is (.int .i64 ((np : Int) - 1)),
   is (.pointer (some ⟨(s1 1), 0, none⟩)),
   is (.slice (some ⟨tx, ux, none⟩) (3) (cx)),
   is (.bool true),
   is (.bool false),
   is (.bool false)])
  ⟨is_k, is_k, is_k, is_k, is_k, is_k, is_k, is_k, is_k, trivial⟩
  ⟨fun f s W c d j k l a => opv rfl rfl (by simp [go_sem, a.e 2 k4_2]) rfl,
  fun f s W c d j k l a => opv rfl rfl (by simp [go_sem, a.e 18 (d 0 rfl), cb b4_0 c 0]) rfl,
  fun f s W c d j k l a => opv rfl rfl (by simp [go_sem, a.e 19 (d 1 rfl)]) rfl,
  fun f s W c d j k l a => opv rfl rfl (by simp [go_sem, a.e 20 (d 2 rfl), IntWalk.i64_in ((np : Int) - 1) (by omega)]) rfl,
  fun f s W c d j k l a => opv rfl rfl (by simp [go_sem, a.e 3 k4_3]) rfl,
  fun f s W c d j k l a => opv rfl rfl (by simp [go_sem, a.e 22 (d 4 rfl), cb b4_1 c 0]) rfl,
  fun f s W c d j k l a => by have m := below_trans fB4 c; exact opDo_call (args := #[.int .i64 0, .int .i64 ((np : Int) - 1), .slice (some ⟨tx, ux, none⟩) (3) (cx)]) rfl rfl (by simp [go_sem, a.e 21 (d 3 rfl), a.e 23 (d 5 rfl)]) (bo_within_any 0 ((np : Int) - 1) _ 3 cx [(pa0 : Int), (pa1 : Int), (pa2 : Int)] W (hX.below m (Nat.le_refl _))) ((fun e W' h => by have h1 := h.1; rw [hwX] at h1; exact ⟨_, h1, h.2, rfl⟩)),
  fun f s W c d j k l a => opv rfl rfl (by simp [go_sem, a.e 24 (d 6 rfl)]) rfl,
  fun f s W c d j k l a => opv rfl rfl (by simp [go_sem, a.e 25 (d 7 rfl)]) rfl, trivial⟩ ?_
 intro f5 s5 W5 hB5 g5 hg5
 have fB5 := hB5.f fB4
 have z5 := hB5.below.size
 have b5_0 := hB5.b b4_0
 have b5_1 := hB5.b b4_1
 refine hK10 _ _ ?_
 have k5_2 := kt hg5 2 k4_2
 have k5_3 := kt hg5 3 k4_3
 have k5_4 := kt hg5 4 k4_4
 have k5_17 := kt hg5 17 (hB5.is 8)
 refine wp_cond_false ((fr_eval rfl).trans k5_17) ?_
 refine region_dk 9 [(26, 0), (27, 1), (28, 2), (29, 3), (30, 4), (31, 5), (32, 6), (33, 7), (17, 8)] [[], [0], [0, 1], [0, 1, 2], [], [4], [0, 1, 2, 3, 4, 5], [0, 1, 2, 3, 4, 5, 6], [0, 1, 2, 3, 4, 5, 6, 7]] (rel [is (.pointer (some ⟨(s1 0), 1, none⟩)),
   is (.slice (some ⟨bq, oq, none⟩) (nq) (cq)),
   is (.int .i64 ((nq : Int))),
   is (.int .i64 ((nq : Int) - 1)),
   is (.pointer (some ⟨(s1 1), 1, none⟩)),
   is (.slice (some ⟨tf, uf, none⟩) (1) (cf)),
   is (.bool true),
   is (.bool false),
   is (.bool false)])
  ⟨is_k, is_k, is_k, is_k, is_k, is_k, is_k, is_k, is_k, trivial⟩
  ⟨fun f s W c d j k l a => opv rfl rfl (by simp [go_sem, a.e 2 k5_2]) rfl,
  fun f s W c d j k l a => opv rfl rfl (by simp [go_sem, a.e 26 (d 0 rfl), cb b5_0 c 1]) rfl,
  fun f s W c d j k l a => opv rfl rfl (by simp [go_sem, a.e 27 (d 1 rfl)]) rfl,
  fun f s W c d j k l a => opv rfl rfl (by simp [go_sem, a.e 28 (d 2 rfl), IntWalk.i64_in ((nq : Int) - 1) (by omega)]) rfl,
  fun f s W c d j k l a => opv rfl rfl (by simp [go_sem, a.e 3 k5_3]) rfl,
  fun f s W c d j k l a => opv rfl rfl (by simp [go_sem, a.e 30 (d 4 rfl), cb b5_1 c 1]) rfl,
  fun f s W c d j k l a => by have m := below_trans fB5 c; exact opDo_call (args := #[.int .i64 0, .int .i64 ((nq : Int) - 1), .slice (some ⟨tf, uf, none⟩) (1) (cf)]) rfl rfl (by simp [go_sem, a.e 29 (d 3 rfl), a.e 31 (d 5 rfl)]) (bo_within_any 0 ((nq : Int) - 1) _ 1 cf [(fa0 : Int)] W (hF.below m (Nat.le_refl _))) ((fun e W' h => by have h1 := h.1; rw [hwF] at h1; exact ⟨_, h1, h.2, rfl⟩)),
  fun f s W c d j k l a => opv rfl rfl (by simp [go_sem, a.e 32 (d 6 rfl)]) rfl,
  fun f s W c d j k l a => opv rfl rfl (by simp [go_sem, a.e 33 (d 7 rfl)]) rfl, trivial⟩ ?_
 intro f6 s6 W6 hB6 g6 hg6
 have fB6 := hB6.f fB5
 have z6 := hB6.below.size
 have b6_0 := hB6.b b5_0
 have b6_1 := hB6.b b5_1
 refine hK9 _ _ ?_
 have k6_2 := kt hg6 2 k5_2
 have k6_3 := kt hg6 3 k5_3
 have k6_4 := kt hg6 4 k5_4
 have k6_17 := kt hg6 17 (hB6.is 8)
 refine wp_cond_false ((fr_eval rfl).trans k6_17) ?_
 refine wp_skip ?_
 refine inBlock_normal ?_
 refine hK6 _ _ ?_
 refine wp_seq_k fun K13 hK13 => ?_
 refine wp_seq_k fun K14 hK14 => ?_
 refine region_dk 6 [(34, 0), (35, 1), (36, 2), (37, 3), (38, 4), (39, 5)] [[], [0], [0, 1], [0, 1, 2], [0, 1, 2, 3], []] (rel [is (.pointer (some ⟨(s1 1), 1, none⟩)),
   is (.slice (some ⟨tf, uf, none⟩) (1) (cf)),
   is (.int .i64 1),
   ab fun v W => IsKi 3 [1, 2, 1] v W,
   is (.int .i64 3),
   is (.int .i64 0)])
  ⟨is_k, is_k, is_k, ab_k fun v W W' hb h => h.below hb, is_k, is_k, trivial⟩
  ⟨fun f s W c d j k l a => opv rfl rfl (by simp [go_sem, a.e 3 k6_3]) rfl,
  fun f s W c d j k l a => opv rfl rfl (by simp [go_sem, a.e 34 (d 0 rfl), cb b6_1 c 1]) rfl,
  fun f s W c d j k l a => opv rfl rfl (by simp [go_sem, a.e 35 (d 1 rfl)]) rfl,
  fun f s W c d j k l a => opDo_call rfl rfl (by simp [go_sem, a.e 36 (d 2 rfl)]) (kinds_1 W) ((fun e W' h => by obtain ⟨v, e1, h1, h2⟩ := h; exact ⟨_, e1, h2, h1⟩)),
  fun f s W c d j k l a => by obtain ⟨a19', c20', d3, q21'⟩ := (d 3 rfl); exact opv rfl rfl (by simp [go_sem, a.e 37 d3]) rfl,
  fun f s W c d j k l a => opv rfl rfl (by simp [go_sem]) rfl, trivial⟩ ?_
 intro f7 s7 W7 hB7 g7 hg7
 have fB7 := hB7.f fB6
 have z7 := hB7.below.size
 have b7_0 := hB7.b b6_0
 have b7_1 := hB7.b b6_1
 obtain ⟨a22', c23', r7_3, q24'⟩ := hB7.is 3
 refine hK14 _ _ ?_
 have k7_2 := kt hg7 2 k6_2
 have k7_3 := kt hg7 3 k6_3
 have k7_4 := kt hg7 4 k6_4
 have k7_37 := kt hg7 37 r7_3
 have k7_38 := kt hg7 38 (hB7.is 4)
 have k7_39 := kt hg7 39 (hB7.is 5)
 refine wp_block ?_
 refine wp_loop_rounds 4 ?_
 rw [rounds_succ]
 refine wp_seq_k fun K15 hK15 => ?_
 refine region_dk 1 [(40, 0)] [[]] (rel [is (.bool true)])
  ⟨is_k, trivial⟩
  ⟨fun f s W c d j k l a => opv rfl rfl (by simp [go_sem, a.e 39 k7_39, a.e 38 k7_38]) rfl, trivial⟩ ?_
 intro f8 s8 W8 hB8 g8 hg8
 have fB8 := hB8.f fB7
 have z8 := hB8.below.size
 have b8_0 := hB8.b b7_0
 have b8_1 := hB8.b b7_1
 have q25' := (q24'.bw hB8)
 refine hK15 _ _ ?_
 have k8_2 := kt hg8 2 k7_2
 have k8_3 := kt hg8 3 k7_3
 have k8_4 := kt hg8 4 k7_4
 have k8_37 := kt hg8 37 k7_37
 have k8_38 := kt hg8 38 k7_38
 have k8_39 := kt hg8 39 k7_39
 have k8_40 := kt hg8 40 (hB8.is 0)
 refine wp_seq_k fun K16 hK16 => ?_
 refine wp_cond_true ((fr_eval rfl).trans k8_40) ?_
 refine wp_skip ?_
 refine hK16 _ _ ?_
 refine wp_seq_k fun K18 hK18 => ?_
 refine wp_block ?_
 refine wp_seq_k fun K19 hK19 => ?_
 refine region_dk 5 [(41, 0), (42, 1), (43, 2), (6, 3), (7, 4)] [[], [], [1], [0, 1, 2], [0, 1, 2, 3]] (rel [is (.int .i64 0),
   is (.pointer (some ⟨a22', 0, none⟩)),
   is (.int .i64 1),
   is (.int .i64 0),
   is (.int .i64 1)])
  ⟨is_k, is_k, is_k, is_k, is_k, trivial⟩
  ⟨fun f s W c d j k l a => opv rfl rfl (by simp [go_sem, a.e 39 k8_39]) rfl,
  fun f s W c d j k l a => opv rfl rfl (by simp [go_sem, a.e 37 k8_37, a.e 39 k8_39]) rfl,
  fun f s W c d j k l a => by have cu : W.cell? ⟨a22', 0, none⟩ = some (.int .i64 1) := (by have := ii_cell (q25'.below c (Nat.le_refl _)) 0 (by decide); rw [Nat.zero_add] at this; exact this); exact opv rfl rfl (by simp [go_sem, a.e 42 (d 1 rfl), cu]) rfl,
  fun f s W c d j k l a => opv rfl rfl (by simp [go_sem, a.e 41 (d 0 rfl)]) rfl,
  fun f s W c d j k l a => opv rfl rfl (by simp [go_sem, a.e 43 (d 2 rfl)]) rfl, trivial⟩ ?_
 intro f9 s9 W9 hB9 g9 hg9
 have fB9 := hB9.f fB8
 have z9 := hB9.below.size
 have b9_0 := hB9.b b8_0
 have b9_1 := hB9.b b8_1
 have q26' := (q25'.bw hB9)
 refine hK19 _ _ ?_
 have k9_2 := kt hg9 2 k8_2
 have k9_3 := kt hg9 3 k8_3
 have k9_4 := kt hg9 4 k8_4
 have k9_37 := kt hg9 37 k8_37
 have k9_38 := kt hg9 38 k8_38
 have k9_39 := kt hg9 39 k8_39
 have k9_40 := kt hg9 40 k8_40
 have k9_6 := kt hg9 6 (hB9.is 3)
 have k9_7 := kt hg9 7 (hB9.is 4)
 refine wp_seq_k fun K20 hK20 => ?_
 refine region_dk 12 [(44, 0), (45, 1), (46, 2), (47, 3), (48, 4), (49, 5), (50, 6), (51, 7), (52, 8), (53, 9), (54, 10), (55, 11)] [[], [0], [], [2], [], [2, 3, 4], [2, 3, 4, 5], [0, 1, 2, 3, 4, 5, 6], [0, 1, 2, 3, 4, 5, 6, 7], [0, 1, 2, 3, 4, 5, 6, 7, 8], [], [0, 1, 2, 3, 4, 5, 6, 7, 8, 9, 10]] (rel [is (.pointer (some ⟨(s1 0), 0, none⟩)),
   is (.slice (some ⟨bp, oP, none⟩) (np) (cp)),
   is (.pointer (some ⟨(s1 1), 0, none⟩)),
   is (.slice (some ⟨tx, ux, none⟩) (3) (cx)),
   is (.int .i64 0),
   is (.pointer (some ⟨tx, ux, none⟩)),
   is (.int .i64 ((pa0 : Int))),
   is (.pointer (some ⟨bp, oP + pa0 * 8, none⟩)),
   is (.pointer (some ⟨bp, oP + pa0 * 8, none⟩)),
   is (.int .i64 PA0.kind),
   is (.int .i64 1),
   is (.bool false)])
  ⟨is_k, is_k, is_k, is_k, is_k, is_k, is_k, is_k, is_k, is_k, is_k, is_k, trivial⟩
  ⟨fun f s W c d j k l a => opv rfl rfl (by simp [go_sem, a.e 2 k9_2]) rfl,
  fun f s W c d j k l a => opv rfl rfl (by simp [go_sem, a.e 44 (d 0 rfl), cb b9_0 c 0]) rfl,
  fun f s W c d j k l a => opv rfl rfl (by simp [go_sem, a.e 3 k9_3]) rfl,
  fun f s W c d j k l a => opv rfl rfl (by simp [go_sem, a.e 46 (d 2 rfl), cb b9_1 c 0]) rfl,
  fun f s W c d j k l a => opv rfl rfl (by simp [go_sem, a.e 6 k9_6]) rfl,
  fun f s W c d j k l a => opv rfl rfl (by simp [go_sem, a.e 47 (d 3 rfl), a.e 48 (d 4 rfl)]) rfl,
  fun f s W c d j k l a => by have m := below_trans fB9 c; have cu : W.cell? ⟨tx, ux, none⟩ = some (.int .i64 (pa0 : Int)) := ii_cell (hX.below m (Nat.le_refl _)) 0 (by simp); exact opv rfl rfl (by simp [go_sem, a.e 49 (d 5 rfl), cu]) rfl,
  fun f s W c d j k l a => by have li_ := Nat.not_le.2 hpa0; have lz_ : (pa0 : Int) < (np : Int) := (by omega); exact opv rfl rfl (by simp [go_sem, a.e 45 (d 1 rfl), a.e 50 (d 6 rfl), li_, hpa0, lz_]) rfl,
  fun f s W c d j k l a => opv rfl rfl (by simp [go_sem, a.e 51 (d 7 rfl)]) rfl,
  fun f s W c d j k l a => by have m := below_trans fB9 c; have E_ := (hP.below m).2 pa0 hpa0; rw [epa0] at E_; obtain ⟨u0_, u1_, u2_, u3_, u4_, u5_, u6_, u7_⟩ := E_; have v0_ : W.cell? ⟨bp, oP + pa0 * 8, none⟩ = some (.int .i64 PA0.kind) := u0_; exact opv rfl rfl (by simp [go_sem, a.e 52 (d 8 rfl), v0_]) rfl,
  fun f s W c d j k l a => opv rfl rfl (by simp [go_sem, a.e 7 k9_7]) rfl,
  fun f s W c d j k l a => opv rfl rfl (by simp [go_sem, a.e 53 (d 9 rfl), a.e 54 (d 10 rfl), hk0]) rfl, trivial⟩ ?_
 intro f10 s10 W10 hB10 g10 hg10
 have fB10 := hB10.f fB9
 have z10 := hB10.below.size
 have b10_0 := hB10.b b9_0
 have b10_1 := hB10.b b9_1
 have q27' := (q26'.bw hB10)
 refine hK20 _ _ ?_
 have k10_2 := kt hg10 2 k9_2
 have k10_3 := kt hg10 3 k9_3
 have k10_4 := kt hg10 4 k9_4
 have k10_37 := kt hg10 37 k9_37
 have k10_38 := kt hg10 38 k9_38
 have k10_39 := kt hg10 39 k9_39
 have k10_40 := kt hg10 40 k9_40
 have k10_6 := kt hg10 6 k9_6
 have k10_7 := kt hg10 7 k9_7
 have k10_55 := kt hg10 55 (hB10.is 11)
 refine wp_cond_false ((fr_eval rfl).trans k10_55) ?_
 refine wp_skip ?_
 refine inBlock_normal ?_
 refine hK18 _ _ ?_
 refine region_dk 2 [(56, 0), (39, 1)] [[], [0]] (rel [is (.int .i64 1),
   is (.int .i64 1)])
  ⟨is_k, is_k, trivial⟩
  ⟨fun f s W c d j k l a => opv rfl rfl (by simp [go_sem, a.e 39 ((k 1 39 rfl rfl).trans k10_39), IntWalk.i64_in (1) (by omega)]) rfl,
  fun f s W c d j k l a => opv rfl rfl (by simp [go_sem, a.e 56 (d 0 rfl)]) rfl, trivial⟩ ?_
 intro f11 s11 W11 hB11 g11 hg11
 have fB11 := hB11.f fB10
 have z11 := hB11.below.size
 have b11_0 := hB11.b b10_0
 have b11_1 := hB11.b b10_1
 have q28' := (q27'.bw hB11)
 refine wpOps_end ?_
 have k11_2 := kt hg11 2 k10_2
 have k11_3 := kt hg11 3 k10_3
 have k11_4 := kt hg11 4 k10_4
 have k11_37 := kt hg11 37 k10_37
 have k11_38 := kt hg11 38 k10_38
 have k11_40 := kt hg11 40 k10_40
 have k11_6 := kt hg11 6 k10_6
 have k11_7 := kt hg11 7 k10_7
 have k11_55 := kt hg11 55 k10_55
 have k11_39 := kt hg11 39 (hB11.is 1)
 refine then_normal ?_
 rw [rounds_succ]
 refine wp_seq_k fun K22 hK22 => ?_
 refine region_dk 1 [(40, 0)] [[]] (rel [is (.bool true)])
  ⟨is_k, trivial⟩
  ⟨fun f s W c d j k l a => opv rfl rfl (by simp [go_sem, a.e 39 k11_39, a.e 38 k11_38]) rfl, trivial⟩ ?_
 intro f12 s12 W12 hB12 g12 hg12
 have fB12 := hB12.f fB11
 have z12 := hB12.below.size
 have b12_0 := hB12.b b11_0
 have b12_1 := hB12.b b11_1
 have q29' := (q28'.bw hB12)
 refine hK22 _ _ ?_
 have k12_2 := kt hg12 2 k11_2
 have k12_3 := kt hg12 3 k11_3
 have k12_4 := kt hg12 4 k11_4
 have k12_37 := kt hg12 37 k11_37
 have k12_38 := kt hg12 38 k11_38
 have k12_6 := kt hg12 6 k11_6
 have k12_7 := kt hg12 7 k11_7
 have k12_55 := kt hg12 55 k11_55
 have k12_39 := kt hg12 39 k11_39
 have k12_40 := kt hg12 40 (hB12.is 0)
 refine wp_seq_k fun K23 hK23 => ?_
 refine wp_cond_true ((fr_eval rfl).trans k12_40) ?_
 refine wp_skip ?_
 refine hK23 _ _ ?_
 refine wp_seq_k fun K25 hK25 => ?_
 refine wp_block ?_
 refine wp_seq_k fun K26 hK26 => ?_
 refine region_dk 5 [(41, 0), (42, 1), (43, 2), (6, 3), (7, 4)] [[], [], [1], [0, 1, 2], [0, 1, 2, 3]] (rel [is (.int .i64 1),
   is (.pointer (some ⟨a22', 1, none⟩)),
   is (.int .i64 2),
   is (.int .i64 1),
   is (.int .i64 2)])
  ⟨is_k, is_k, is_k, is_k, is_k, trivial⟩
  ⟨fun f s W c d j k l a => opv rfl rfl (by simp [go_sem, a.e 39 k12_39]) rfl,
  fun f s W c d j k l a => opv rfl rfl (by simp [go_sem, a.e 37 k12_37, a.e 39 k12_39]) rfl,
  fun f s W c d j k l a => by have cu : W.cell? ⟨a22', 1, none⟩ = some (.int .i64 2) := (by have := ii_cell (q29'.below c (Nat.le_refl _)) 1 (by decide); rw [Nat.zero_add] at this; exact this); exact opv rfl rfl (by simp [go_sem, a.e 42 (d 1 rfl), cu]) rfl,
  fun f s W c d j k l a => opv rfl rfl (by simp [go_sem, a.e 41 (d 0 rfl)]) rfl,
  fun f s W c d j k l a => opv rfl rfl (by simp [go_sem, a.e 43 (d 2 rfl)]) rfl, trivial⟩ ?_
 intro f13 s13 W13 hB13 g13 hg13
 have fB13 := hB13.f fB12
 have z13 := hB13.below.size
 have b13_0 := hB13.b b12_0
 have b13_1 := hB13.b b12_1
 have q30' := (q29'.bw hB13)
 refine hK26 _ _ ?_
 have k13_2 := kt hg13 2 k12_2
 have k13_3 := kt hg13 3 k12_3
 have k13_4 := kt hg13 4 k12_4
 have k13_37 := kt hg13 37 k12_37
 have k13_38 := kt hg13 38 k12_38
 have k13_55 := kt hg13 55 k12_55
 have k13_39 := kt hg13 39 k12_39
 have k13_40 := kt hg13 40 k12_40
 have k13_6 := kt hg13 6 (hB13.is 3)
 have k13_7 := kt hg13 7 (hB13.is 4)
 refine wp_seq_k fun K27 hK27 => ?_
 refine region_dk 12 [(44, 0), (45, 1), (46, 2), (47, 3), (48, 4), (49, 5), (50, 6), (51, 7), (52, 8), (53, 9), (54, 10), (55, 11)] [[], [0], [], [2], [], [2, 3, 4], [2, 3, 4, 5], [0, 1, 2, 3, 4, 5, 6], [0, 1, 2, 3, 4, 5, 6, 7], [0, 1, 2, 3, 4, 5, 6, 7, 8], [], [0, 1, 2, 3, 4, 5, 6, 7, 8, 9, 10]] (rel [is (.pointer (some ⟨(s1 0), 0, none⟩)),
   is (.slice (some ⟨bp, oP, none⟩) (np) (cp)),
   is (.pointer (some ⟨(s1 1), 0, none⟩)),
   is (.slice (some ⟨tx, ux, none⟩) (3) (cx)),
   is (.int .i64 1),
   is (.pointer (some ⟨tx, ux + 1, none⟩)),
   is (.int .i64 ((pa1 : Int))),
   is (.pointer (some ⟨bp, oP + pa1 * 8, none⟩)),
   is (.pointer (some ⟨bp, oP + pa1 * 8, none⟩)),
   is (.int .i64 PA1.kind),
   is (.int .i64 2),
   is (.bool false)])
  ⟨is_k, is_k, is_k, is_k, is_k, is_k, is_k, is_k, is_k, is_k, is_k, is_k, trivial⟩
  ⟨fun f s W c d j k l a => opv rfl rfl (by simp [go_sem, a.e 2 k13_2]) rfl,
  fun f s W c d j k l a => opv rfl rfl (by simp [go_sem, a.e 44 (d 0 rfl), cb b13_0 c 0]) rfl,
  fun f s W c d j k l a => opv rfl rfl (by simp [go_sem, a.e 3 k13_3]) rfl,
  fun f s W c d j k l a => opv rfl rfl (by simp [go_sem, a.e 46 (d 2 rfl), cb b13_1 c 0]) rfl,
  fun f s W c d j k l a => opv rfl rfl (by simp [go_sem, a.e 6 k13_6]) rfl,
  fun f s W c d j k l a => opv rfl rfl (by simp [go_sem, a.e 47 (d 3 rfl), a.e 48 (d 4 rfl)]) rfl,
  fun f s W c d j k l a => by have m := below_trans fB13 c; have cu : W.cell? ⟨tx, ux + 1, none⟩ = some (.int .i64 (pa1 : Int)) := ii_cell (hX.below m (Nat.le_refl _)) 1 (by simp); exact opv rfl rfl (by simp [go_sem, a.e 49 (d 5 rfl), cu]) rfl,
  fun f s W c d j k l a => by have li_ := Nat.not_le.2 hpa1; have lz_ : (pa1 : Int) < (np : Int) := (by omega); exact opv rfl rfl (by simp [go_sem, a.e 45 (d 1 rfl), a.e 50 (d 6 rfl), li_, hpa1, lz_]) rfl,
  fun f s W c d j k l a => opv rfl rfl (by simp [go_sem, a.e 51 (d 7 rfl)]) rfl,
  fun f s W c d j k l a => by have m := below_trans fB13 c; have E_ := (hP.below m).2 pa1 hpa1; rw [epa1] at E_; obtain ⟨u0_, u1_, u2_, u3_, u4_, u5_, u6_, u7_⟩ := E_; have v0_ : W.cell? ⟨bp, oP + pa1 * 8, none⟩ = some (.int .i64 PA1.kind) := u0_; exact opv rfl rfl (by simp [go_sem, a.e 52 (d 8 rfl), v0_]) rfl,
  fun f s W c d j k l a => opv rfl rfl (by simp [go_sem, a.e 7 k13_7]) rfl,
  fun f s W c d j k l a => opv rfl rfl (by simp [go_sem, a.e 53 (d 9 rfl), a.e 54 (d 10 rfl), hk1]) rfl, trivial⟩ ?_
 intro f14 s14 W14 hB14 g14 hg14
 have fB14 := hB14.f fB13
 have z14 := hB14.below.size
 have b14_0 := hB14.b b13_0
 have b14_1 := hB14.b b13_1
 have q31' := (q30'.bw hB14)
 refine hK27 _ _ ?_
 have k14_2 := kt hg14 2 k13_2
 have k14_3 := kt hg14 3 k13_3
 have k14_4 := kt hg14 4 k13_4
 have k14_37 := kt hg14 37 k13_37
 have k14_38 := kt hg14 38 k13_38
 have k14_39 := kt hg14 39 k13_39
 have k14_40 := kt hg14 40 k13_40
 have k14_6 := kt hg14 6 k13_6
 have k14_7 := kt hg14 7 k13_7
 have k14_55 := kt hg14 55 (hB14.is 11)
 refine wp_cond_false ((fr_eval rfl).trans k14_55) ?_
 refine wp_skip ?_
 refine inBlock_normal ?_
 refine hK25 _ _ ?_
 refine region_dk 2 [(56, 0), (39, 1)] [[], [0]] (rel [is (.int .i64 2),
   is (.int .i64 2)])
  ⟨is_k, is_k, trivial⟩
  ⟨fun f s W c d j k l a => opv rfl rfl (by simp [go_sem, a.e 39 ((k 1 39 rfl rfl).trans k14_39), IntWalk.i64_in (2) (by omega)]) rfl,
  fun f s W c d j k l a => opv rfl rfl (by simp [go_sem, a.e 56 (d 0 rfl)]) rfl, trivial⟩ ?_
 intro f15 s15 W15 hB15 g15 hg15
 have fB15 := hB15.f fB14
 have z15 := hB15.below.size
 have b15_0 := hB15.b b14_0
 have b15_1 := hB15.b b14_1
 have q32' := (q31'.bw hB15)
 refine wpOps_end ?_
 have k15_2 := kt hg15 2 k14_2
 have k15_3 := kt hg15 3 k14_3
 have k15_4 := kt hg15 4 k14_4
 have k15_37 := kt hg15 37 k14_37
 have k15_38 := kt hg15 38 k14_38
 have k15_40 := kt hg15 40 k14_40
 have k15_6 := kt hg15 6 k14_6
 have k15_7 := kt hg15 7 k14_7
 have k15_55 := kt hg15 55 k14_55
 have k15_39 := kt hg15 39 (hB15.is 1)
 refine then_normal ?_
 rw [rounds_succ]
 refine wp_seq_k fun K29 hK29 => ?_
 refine region_dk 1 [(40, 0)] [[]] (rel [is (.bool true)])
  ⟨is_k, trivial⟩
  ⟨fun f s W c d j k l a => opv rfl rfl (by simp [go_sem, a.e 39 k15_39, a.e 38 k15_38]) rfl, trivial⟩ ?_
 intro f16 s16 W16 hB16 g16 hg16
 have fB16 := hB16.f fB15
 have z16 := hB16.below.size
 have b16_0 := hB16.b b15_0
 have b16_1 := hB16.b b15_1
 have q33' := (q32'.bw hB16)
 refine hK29 _ _ ?_
 have k16_2 := kt hg16 2 k15_2
 have k16_3 := kt hg16 3 k15_3
 have k16_4 := kt hg16 4 k15_4
 have k16_37 := kt hg16 37 k15_37
 have k16_38 := kt hg16 38 k15_38
 have k16_6 := kt hg16 6 k15_6
 have k16_7 := kt hg16 7 k15_7
 have k16_55 := kt hg16 55 k15_55
 have k16_39 := kt hg16 39 k15_39
 have k16_40 := kt hg16 40 (hB16.is 0)
 refine wp_seq_k fun K30 hK30 => ?_
 refine wp_cond_true ((fr_eval rfl).trans k16_40) ?_
 refine wp_skip ?_
 refine hK30 _ _ ?_
 refine wp_seq_k fun K32 hK32 => ?_
 refine wp_block ?_
 refine wp_seq_k fun K33 hK33 => ?_
 refine region_dk 5 [(41, 0), (42, 1), (43, 2), (6, 3), (7, 4)] [[], [], [1], [0, 1, 2], [0, 1, 2, 3]] (rel [is (.int .i64 2),
   is (.pointer (some ⟨a22', 2, none⟩)),
   is (.int .i64 1),
   is (.int .i64 2),
   is (.int .i64 1)])
  ⟨is_k, is_k, is_k, is_k, is_k, trivial⟩
  ⟨fun f s W c d j k l a => opv rfl rfl (by simp [go_sem, a.e 39 k16_39]) rfl,
  fun f s W c d j k l a => opv rfl rfl (by simp [go_sem, a.e 37 k16_37, a.e 39 k16_39]) rfl,
  fun f s W c d j k l a => by have cu : W.cell? ⟨a22', 2, none⟩ = some (.int .i64 1) := (by have := ii_cell (q33'.below c (Nat.le_refl _)) 2 (by decide); rw [Nat.zero_add] at this; exact this); exact opv rfl rfl (by simp [go_sem, a.e 42 (d 1 rfl), cu]) rfl,
  fun f s W c d j k l a => opv rfl rfl (by simp [go_sem, a.e 41 (d 0 rfl)]) rfl,
  fun f s W c d j k l a => opv rfl rfl (by simp [go_sem, a.e 43 (d 2 rfl)]) rfl, trivial⟩ ?_
 intro f17 s17 W17 hB17 g17 hg17
 have fB17 := hB17.f fB16
 have z17 := hB17.below.size
 have b17_0 := hB17.b b16_0
 have b17_1 := hB17.b b16_1
 have q34' := (q33'.bw hB17)
 refine hK33 _ _ ?_
 have k17_2 := kt hg17 2 k16_2
 have k17_3 := kt hg17 3 k16_3
 have k17_4 := kt hg17 4 k16_4
 have k17_37 := kt hg17 37 k16_37
 have k17_38 := kt hg17 38 k16_38
 have k17_55 := kt hg17 55 k16_55
 have k17_39 := kt hg17 39 k16_39
 have k17_40 := kt hg17 40 k16_40
 have k17_6 := kt hg17 6 (hB17.is 3)
 have k17_7 := kt hg17 7 (hB17.is 4)
 refine wp_seq_k fun K34 hK34 => ?_
 refine region_dk 12 [(44, 0), (45, 1), (46, 2), (47, 3), (48, 4), (49, 5), (50, 6), (51, 7), (52, 8), (53, 9), (54, 10), (55, 11)] [[], [0], [], [2], [], [2, 3, 4], [2, 3, 4, 5], [0, 1, 2, 3, 4, 5, 6], [0, 1, 2, 3, 4, 5, 6, 7], [0, 1, 2, 3, 4, 5, 6, 7, 8], [], [0, 1, 2, 3, 4, 5, 6, 7, 8, 9, 10]] (rel [is (.pointer (some ⟨(s1 0), 0, none⟩)),
   is (.slice (some ⟨bp, oP, none⟩) (np) (cp)),
   is (.pointer (some ⟨(s1 1), 0, none⟩)),
   is (.slice (some ⟨tx, ux, none⟩) (3) (cx)),
   is (.int .i64 2),
   is (.pointer (some ⟨tx, ux + 2, none⟩)),
   is (.int .i64 ((pa2 : Int))),
   is (.pointer (some ⟨bp, oP + pa2 * 8, none⟩)),
   is (.pointer (some ⟨bp, oP + pa2 * 8, none⟩)),
   is (.int .i64 PA2.kind),
   is (.int .i64 1),
   is (.bool false)])
  ⟨is_k, is_k, is_k, is_k, is_k, is_k, is_k, is_k, is_k, is_k, is_k, is_k, trivial⟩
  ⟨fun f s W c d j k l a => opv rfl rfl (by simp [go_sem, a.e 2 k17_2]) rfl,
  fun f s W c d j k l a => opv rfl rfl (by simp [go_sem, a.e 44 (d 0 rfl), cb b17_0 c 0]) rfl,
  fun f s W c d j k l a => opv rfl rfl (by simp [go_sem, a.e 3 k17_3]) rfl,
  fun f s W c d j k l a => opv rfl rfl (by simp [go_sem, a.e 46 (d 2 rfl), cb b17_1 c 0]) rfl,
  fun f s W c d j k l a => opv rfl rfl (by simp [go_sem, a.e 6 k17_6]) rfl,
  fun f s W c d j k l a => opv rfl rfl (by simp [go_sem, a.e 47 (d 3 rfl), a.e 48 (d 4 rfl)]) rfl,
  fun f s W c d j k l a => by have m := below_trans fB17 c; have cu : W.cell? ⟨tx, ux + 2, none⟩ = some (.int .i64 (pa2 : Int)) := ii_cell (hX.below m (Nat.le_refl _)) 2 (by simp); exact opv rfl rfl (by simp [go_sem, a.e 49 (d 5 rfl), cu]) rfl,
  fun f s W c d j k l a => by have li_ := Nat.not_le.2 hpa2; have lz_ : (pa2 : Int) < (np : Int) := (by omega); exact opv rfl rfl (by simp [go_sem, a.e 45 (d 1 rfl), a.e 50 (d 6 rfl), li_, hpa2, lz_]) rfl,
  fun f s W c d j k l a => opv rfl rfl (by simp [go_sem, a.e 51 (d 7 rfl)]) rfl,
  fun f s W c d j k l a => by have m := below_trans fB17 c; have E_ := (hP.below m).2 pa2 hpa2; rw [epa2] at E_; obtain ⟨u0_, u1_, u2_, u3_, u4_, u5_, u6_, u7_⟩ := E_; have v0_ : W.cell? ⟨bp, oP + pa2 * 8, none⟩ = some (.int .i64 PA2.kind) := u0_; exact opv rfl rfl (by simp [go_sem, a.e 52 (d 8 rfl), v0_]) rfl,
  fun f s W c d j k l a => opv rfl rfl (by simp [go_sem, a.e 7 k17_7]) rfl,
  fun f s W c d j k l a => opv rfl rfl (by simp [go_sem, a.e 53 (d 9 rfl), a.e 54 (d 10 rfl), hk2]) rfl, trivial⟩ ?_
 intro f18 s18 W18 hB18 g18 hg18
 have fB18 := hB18.f fB17
 have z18 := hB18.below.size
 have b18_0 := hB18.b b17_0
 have b18_1 := hB18.b b17_1
 have q35' := (q34'.bw hB18)
 refine hK34 _ _ ?_
 have k18_2 := kt hg18 2 k17_2
 have k18_3 := kt hg18 3 k17_3
 have k18_4 := kt hg18 4 k17_4
 have k18_37 := kt hg18 37 k17_37
 have k18_38 := kt hg18 38 k17_38
 have k18_39 := kt hg18 39 k17_39
 have k18_40 := kt hg18 40 k17_40
 have k18_6 := kt hg18 6 k17_6
 have k18_7 := kt hg18 7 k17_7
 have k18_55 := kt hg18 55 (hB18.is 11)
 refine wp_cond_false ((fr_eval rfl).trans k18_55) ?_
 refine wp_skip ?_
 refine inBlock_normal ?_
 refine hK32 _ _ ?_
 refine region_dk 2 [(56, 0), (39, 1)] [[], [0]] (rel [is (.int .i64 3),
   is (.int .i64 3)])
  ⟨is_k, is_k, trivial⟩
  ⟨fun f s W c d j k l a => opv rfl rfl (by simp [go_sem, a.e 39 ((k 1 39 rfl rfl).trans k18_39), IntWalk.i64_in (3) (by omega)]) rfl,
  fun f s W c d j k l a => opv rfl rfl (by simp [go_sem, a.e 56 (d 0 rfl)]) rfl, trivial⟩ ?_
 intro f19 s19 W19 hB19 g19 hg19
 have fB19 := hB19.f fB18
 have z19 := hB19.below.size
 have b19_0 := hB19.b b18_0
 have b19_1 := hB19.b b18_1
 have q36' := (q35'.bw hB19)
 refine wpOps_end ?_
 have k19_2 := kt hg19 2 k18_2
 have k19_3 := kt hg19 3 k18_3
 have k19_4 := kt hg19 4 k18_4
 have k19_37 := kt hg19 37 k18_37
 have k19_38 := kt hg19 38 k18_38
 have k19_40 := kt hg19 40 k18_40
 have k19_6 := kt hg19 6 k18_6
 have k19_7 := kt hg19 7 k18_7
 have k19_55 := kt hg19 55 k18_55
 have k19_39 := kt hg19 39 (hB19.is 1)
 refine then_normal ?_
 rw [rounds_succ]
 refine wp_seq_k fun K36 hK36 => ?_
 refine region_dk 1 [(40, 0)] [[]] (rel [is (.bool false)])
  ⟨is_k, trivial⟩
  ⟨fun f s W c d j k l a => opv rfl rfl (by simp [go_sem, a.e 39 k19_39, a.e 38 k19_38]) rfl, trivial⟩ ?_
 intro f20 s20 W20 hB20 g20 hg20
 have fB20 := hB20.f fB19
 have z20 := hB20.below.size
 have b20_0 := hB20.b b19_0
 have b20_1 := hB20.b b19_1
 have q37' := (q36'.bw hB20)
 refine hK36 _ _ ?_
 have k20_2 := kt hg20 2 k19_2
 have k20_3 := kt hg20 3 k19_3
 have k20_4 := kt hg20 4 k19_4
 have k20_37 := kt hg20 37 k19_37
 have k20_38 := kt hg20 38 k19_38
 have k20_6 := kt hg20 6 k19_6
 have k20_7 := kt hg20 7 k19_7
 have k20_55 := kt hg20 55 k19_55
 have k20_39 := kt hg20 39 k19_39
 have k20_40 := kt hg20 40 (hB20.is 0)
 refine wp_seq_k fun K37 hK37 => ?_
 refine wp_cond_false ((fr_eval rfl).trans k20_40) ?_
 refine wp_exit ?_
 refine then_exit ?_
 refine then_exit ?_
 refine inBlock_at ?_
 refine hK13 _ _ ?_
 refine wp_seq_k fun K39 hK39 => ?_
 refine region_dk 1 [(4, 0)] [[]] (rel [is (.int .i64 0)])
  ⟨is_k, trivial⟩
  ⟨fun f s W c d j k l a => opv rfl rfl (by simp [go_sem]) rfl, trivial⟩ ?_
 intro f21 s21 W21 hB21 g21 hg21
 have fB21 := hB21.f fB20
 have z21 := hB21.below.size
 have b21_0 := hB21.b b20_0
 have b21_1 := hB21.b b20_1
 have q38' := (q37'.bw hB21)
 refine hK39 _ _ ?_
 have k21_4 := kt hg21 4 (hB21.is 0)
 refine wp_ret ?_
 refine leave_one (N := 57) (v := .int .i64 0) (.inr rfl) Try.results36 rfl k21_4 ?_
 exact ⟨rfl, fB21⟩
end Go.Proofs.Ytiocklgakklkpaa
