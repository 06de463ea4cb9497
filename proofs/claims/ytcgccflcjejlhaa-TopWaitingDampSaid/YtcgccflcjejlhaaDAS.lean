/- Part of the proof: what the claim leans on. -/
import Derived.Test.YtcgccflcjejlhaaDAP
import Derived.Test.YtcgccflcjejlhaaDAQ
import Derived.Test.YtcgccflcjejlhaaDAR
import Derived.Test.YtcgccflcjejlhaaDAM
set_option linter.unusedSimpArgs false
set_option linter.unusedVariables false
namespace Go.Proofs.Ytcgccflcjejlhaa
open Go.RowKit
theorem ownR_empty {W : World} {T : TypeId} {z B b : Nat} (h : W.heap[b]? = some (.cells #[] T (0, 0))) (hB : B ≤ b) : OwnR T z B 0 [] b 0 W :=
  ⟨hB, lt_of_blk h, by simp, .inr ⟨b, 0, #[], rfl, hB, h, Nat.le_refl _, by unfold maxLen; omega, by simp, by simp⟩⟩
/-- A copy of orders. -/
def IsOrd (n : Nat) (os : Nat → To) (v : Value) (W : World) : Prop := ∃ g c, v = .slice (some ⟨g, 0, none⟩) n c ∧ OrdR W g 0 n os
theorem IsOrd.below {n : Nat} {os : Nat → To} {v : Value} {W W' : World} (h : IsOrd n os v W) (hb : Below W.heap.size W W') : IsOrd n os v W' := by
  obtain ⟨g, c, e, h⟩ := h; exact ⟨g, c, e, h.below hb⟩
def orC (os : Nat → To) : Nat → List Value
  | 0 => []
  | n + 1 => orC os n ++ [.int .i64 (os n).wd, .int .i64 (os n).lo, .int .i64 (os n).hi]
theorem orC_len (os : Nat → To) : ∀ n, (orC os n).length = n * 3
  | 0 => rfl
  | n + 1 => by rw [orC, List.length_append, orC_len os n]; show n * 3 + 3 = _; omega
theorem orC_at (os : Nat → To) : ∀ (n i : Nat), i < n → (orC os n)[i * 3]? = some (.int .i64 (os i).wd) ∧ (orC os n)[i * 3 + 1]? = some (.int .i64 (os i).lo) ∧ (orC os n)[i * 3 + 2]? = some (.int .i64 (os i).hi)
  | 0, _, h => absurd h (Nat.not_lt_zero _)
  | n + 1, i, h => by
    have hl := orC_len os n
    rw [orC]
    by_cases e : i = n
    · subst e
      rw [List.getElem?_append_right (by omega), List.getElem?_append_right (by omega), List.getElem?_append_right (by omega), hl, Nat.sub_self, Nat.add_sub_cancel_left, Nat.add_sub_cancel_left]
      exact ⟨rfl, rfl, rfl⟩
    · rw [List.getElem?_append_left (by omega), List.getElem?_append_left (by omega), List.getElem?_append_left (by omega)]
      exact orC_at os n i (by omega)
theorem OrdR.cells {W : World} {b o n : Nat} {os : Nat → To} (h : OrdR W b o n os) : ∀ j u, (orC os n)[j]? = some u → W.cell? ⟨b, o + j, none⟩ = some u := by
  intro j u hj
  have hlt : j < n * 3 := by
    rcases Nat.lt_or_ge j (n * 3) with h' | h'
    · exact h'
    · rw [List.getElem?_eq_none (by rw [orC_len]; exact h')] at hj; cases hj
  obtain ⟨i, r, hi, hr, rfl⟩ : ∃ i r, i < n ∧ r < 3 ∧ j = i * 3 + r := ⟨j / 3, j % 3, by omega, by omega, by omega⟩
  obtain ⟨h1, h2, h3⟩ := orC_at os n i hi
  obtain ⟨k1, k2, k3⟩ := h.2 i hi
  match r, hr with
  | 0, _ => rw [Nat.add_zero] at hj ⊢; rw [h1] at hj; cases hj; exact k1
  | 1, _ => rw [h2] at hj; cases hj; rw [← Nat.add_assoc]; exact k2
  | 2, _ => rw [h3] at hj; cases hj; rw [← Nat.add_assoc]; exact k3
end Go.Proofs.Ytcgccflcjejlhaa
namespace Go.Proofs.Ytcgccflcjejlhaa
open Go.RowKit
theorem fl_infoJ : (Try.prog.info? 32).map (fun i => (i.zero, i.size, i.bytes)) = some (some (.agg #[.int .i64 0, .int .i64 0, .int .i64 0, .slice none 0 0]), 4, 48) := by kernel_rfl
set_option maxRecDepth 100000 in
set_option maxHeartbeats 8000000 in
theorem jobs_own (bl bj nj cj : Nat) (js : Nat → Fj) (adj : Nat → Option Addr) (kpj : Nat → Nat) (w : World) (hl : w.cell? ⟨bl, 0, none⟩ = some (.slice (some ⟨bj, 0, none⟩) nj cj)) (hlt : bl < w.heap.size) (hJ : JbR w bj 0 nj js adj kpj) (h0 : 0 < nj) (hn : nj ≤ 1000) (hml : ∀ j, j < nj → 0 < (js j).ms.length ∧ (js j).ms.length ≤ 1000) :
  Calls Try.prog 5 #[.pointer (some ⟨bl, 0, none⟩)] w (fun e w' => ∃ v, e = .returned v ∧ IsJobs nj js v w' ∧ Below w.heap.size w w') := by
 refine calls_fr Try.func5 Try.ntmps5 rfl rfl fun g hg => ?_
 have k0 : g 0 = .pointer (some ⟨bl, 0, none⟩) := hg 0
 clear hg
 have fB0 : Below w.heap.size w w := Below.refl _ _
 refine wp_seq_k fun K1 hK1 => ?_
 refine region_dk 1 [(1, 0)] [[]] (rel [is (.slice (none) (0) (0))])
  ⟨is_k, trivial⟩
  ⟨fun f s W c d i l m a => opv rfl rfl (by simp [go_sem]) rfl, trivial⟩ ?_
 intro f1 s1 W1 hB1 g1 hg1
 have fB1 := hB1.f fB0
 have z1 := hB1.below.size
 refine hK1 _ _ ?_
 have k1_0 := kt hg1 0 k0
 have k1_1 := kt hg1 1 (hB1.is 0)
 refine wp_seq_k fun K2 hK2 => ?_
 refine region_dk 2 [(5, 0), (2, 1)] [[], [0]] (rel [row 0 0 #[] 32,
   isS fun s => .slice (some ⟨(s 0), 0, none⟩) (0) (0)])
  ⟨row_k, isS_k fun s s' e => by rw [e 0 (by simp)], trivial⟩
  ⟨fun f s W c d i l m a => opr rfl rfl (by simp [go_sem]),
  fun f s W c d i l m a => opv rfl rfl (by simp [go_sem, a.e 5 (d 0 rfl).1, upd]) rfl, trivial⟩ ?_
 intro f2 s2 W2 hB2 g2 hg2
 have fB2 := hB2.f fB1
 have z2 := hB2.below.size
 obtain ⟨r2_0, br2_0⟩ := hB2.is 0
 have lr2_0 := hB2.lr 0 br2_0
 refine hK2 _ _ ?_
 have k2_0 := kt hg2 0 k1_0
 have k2_1 := kt hg2 1 k1_1
 have k2_2 := kt hg2 2 (hB2.is 1)
 have on0 : OwnN 32 4 w.heap.size 0 [] (some ⟨(s2 0), 0, none⟩) 0 W2 := .inr ⟨_, rfl, ownR_empty br2_0 (by omega)⟩
 have su0 : JbC w.heap.size W2 js 0 [] := jbC_nil
 refine wp_seq_k fun K3 hK3 => ?_
 refine wp_seq_k fun K4 hK4 => ?_
 refine region_dk 1 [(3, 0)] [[]] (rel [is (.int .i64 0)])
  ⟨is_k, trivial⟩
  ⟨fun f s W c d i l m a => opv rfl rfl (by simp [go_sem]) rfl, trivial⟩ ?_
 intro f3 s3 W3 hB3 g3 hg3
 have fB3 := hB3.f fB2
 have z3 := hB3.below.size
 have q1' := (on0.below hB3.below)
 have q2' := (su0.below hB3.below)
 refine hK4 _ _ ?_
 have k3_0 := kt hg3 0 k2_0
 have k3_1 := kt hg3 1 k2_1
 have k3_2 := kt hg3 2 k2_2
 have k3_3 := kt hg3 3 (hB3.is 0)
 refine wp_block ?_
 refine wp_loop_n (fun m_ a_ W_ => ∃ g_ : Nat → Value, a_ = fr 25 g_ ∧ (∃ k : Nat, ∃ aq : Option Addr, ∃ cq : Nat, ∃ cs : List Value, m_ = nj - k ∧ g_ 0 = .pointer (some ⟨bl, 0, none⟩) ∧ g_ 3 = .int .i64 ((k : Int)) ∧ g_ 2 = .slice (aq) (k) (cq) ∧ Below w.heap.size w W_ ∧ W3.heap.size ≤ W_.heap.size ∧ OwnN 32 4 w.heap.size k cs aq cq W_ ∧ JbC w.heap.size W_ js k cs ∧ (k ≤ nj))) ⟨_, g3, rfl, 0, some ⟨(s2 0), 0, none⟩, 0, [], rfl, k3_0, k3_3.trans (by rfl), k3_2.trans (by rfl), fB3, Nat.le_refl _, q1', q2', (by omega)⟩ ?_
 rintro _ _ W_3 ⟨g_3, rfl, k, aq, cq, cs, rfl, k_3_0, k_3_3, k_3_2, fB_3, z_3, q4', q5', lk0⟩
 refine wp_seq_k fun K5 hK5 => ?_
 refine wp_seq_k fun K6 hK6 => ?_
 refine region_dk 4 [(6, 0), (7, 1), (8, 2), (9, 3)] [[], [], [1], [0, 1, 2]] (rel [is (.int .i64 ((k : Int))),
   is (.slice (some ⟨bj, 0, none⟩) (nj) (cj)),
   is (.int .i64 ((nj : Int))),
   is (.bool (decide ((k : Int) < (nj : Int))))])
  ⟨is_k, is_k, is_k, is_k, trivial⟩
  ⟨fun f s W c d i l m a => opv rfl rfl (by simp [go_sem, a.e 3 k_3_3]) rfl,
  fun f s W c d i l m a => by have n := below_trans fB_3 c; have cu_ := (n.cell (p := ⟨bl, 0, none⟩) hlt).trans hl; exact opv rfl rfl (by simp [go_sem, a.e 0 k_3_0, cu_]) rfl,
  fun f s W c d i l m a => opv rfl rfl (by simp [go_sem, a.e 7 (d 1 rfl)]) rfl,
  fun f s W c d i l m a => opv rfl rfl (by simp [go_sem, a.e 6 (d 0 rfl), a.e 8 (d 2 rfl)]) rfl, trivial⟩ ?_
 intro f4 s4 W4 hB4 g4 hg4
 have fB4 := hB4.f fB_3
 have z4 := hB4.below.size
 have q6' := (q4'.below hB4.below)
 have q7' := (q5'.below hB4.below)
 refine hK6 _ _ ?_
 have k4_0 := kt hg4 0 k_3_0
 have k4_3 := kt hg4 3 k_3_3
 have k4_2 := kt hg4 2 k_3_2
 have k4_9 := kt hg4 9 (hB4.is 3)
 refine wp_cond_split (t := decide ((k : Int) < (nj : Int))) ((fr_eval rfl).trans k4_9) (fun hc7 => ?_) (fun hc7 => ?_)
 ·
  have hc7' := hc7; try simp only [ba] at hc7'
  have hkn : k < nj := by omega
  have limA := OwnN.lim q6'
  refine wp_skip ?_
  refine hK5 _ _ ?_
  refine wp_seq_k fun K8 hK8 => ?_
  refine wp_block ?_
  refine wp_seq_k fun K9 hK9 => ?_
  refine region_dk 5 [(12, 0), (13, 1), (14, 2), (15, 3), (4, 4)] [[], [], [0, 1], [0, 1, 2], [], [0, 1, 2, 3, 4]] (rel [is (.slice (some ⟨bj, 0, none⟩) (nj) (cj)),
   is (.int .i64 ((k : Int))),
   is (.pointer (some ⟨bj, 0 + k * 4, none⟩)),
   is (.agg #[.int .i64 (((js k).kd : Int)), .int .i64 ((js k).rd), .int .i64 ((js k).du), .slice ((adj k)) ((js k).ms.length) ((kpj k))]),
   bx 4 #[.int .i64 0, .int .i64 0, .int .i64 0, .slice (none) (0) (0)] 32])
   ⟨is_k, is_k, is_k, is_k, bx_k, trivial⟩
   ⟨fun f s W c d i l m a => by have n := below_trans fB4 c; have cu_ := (n.cell (p := ⟨bl, 0, none⟩) hlt).trans hl; exact opv rfl rfl (by simp [go_sem, a.e 0 k4_0, cu_]) rfl,
  fun f s W c d i l m a => opv rfl rfl (by simp [go_sem, a.e 3 k4_3]) rfl,
  fun f s W c d i l m a => by have li_ := Nat.not_le.2 (show k < nj by omega); have li2_ : (k : Int) < (nj : Int) := (by omega); exact opv rfl rfl (by simp [go_sem, a.e 12 (d 0 rfl), a.e 13 (d 1 rfl), li_, li2_]) rfl,
  fun f s W c d i l m a => by have n := below_trans fB4 c; have cu_ := (hJ.below n).2 k (by omega); have cu0_ := cu_.1; have cu1_ := cu_.2.1; have cu2_ := cu_.2.2.1; have cu3_ := cu_.2.2.2.1; simp only [Nat.zero_add] at cu0_ cu1_ cu2_ cu3_; exact opv rfl rfl (by simp [go_sem, a.e 14 (d 2 rfl), cu0_, cu1_, cu2_, cu3_]) rfl,
  fun f s W c d i l m a => opb rfl rfl (by simp [go_sem]), trivial⟩ ?_
  intro f5 s5 W5 hB5 g5 hg5
  have fB5 := hB5.f fB4
  have z5 := hB5.below.size
  have q8' := (q6'.below hB5.below)
  have q9' := (q7'.below hB5.below)
  obtain ⟨r5_4, br5_4⟩ := hB5.is 4
  have lr5_4 := hB5.lr 4 br5_4
  have k5_0 := kt hg5 0 k4_0
  have k5_3 := kt hg5 3 k4_3
  have k5_2 := kt hg5 2 k4_2
  have k5_15 := kt hg5 15 (hB5.is 3)
  have k5_4 := kt hg5 4 r5_4
  obtain ⟨W6, hW6⟩ : ∃ W', W' = W5.setRow (s5 4) #[.int .i64 (((js k).kd : Int)), .int .i64 ((js k).rd), .int .i64 ((js k).du), .slice ((adj k)) ((js k).ms.length) ((kpj k))] := ⟨_, rfl⟩
  refine tail_skip (o := _) rfl ⟨rfl, rfl⟩ (run_seg hW6 (fr_ev k5_4) (fr_ev k5_15) br5_4 rfl rfl rfl rfl) ?_
  obtain ⟨fB6, nb6, ot6, z6⟩ := seg_facts hW6 fB5 br5_4 (by omega)
  clear hW6
  have q10' := q8'.other ot6 (fun g e => by have := limA g e; omega) z6
  have q11' := q9'.other ot6 (br5_4) z6
  refine wpOps_end ?_
  refine hK9 _ _ ?_
  refine wp_seq_k fun K10 hK10 => ?_
  refine region_dk 4 [(16, 0), (17, 1), (18, 2), (19, 3)] [[], [0], [0, 1], [0, 1, 2], [0, 1, 2, 3]] (rel [is (.pointer (some ⟨(s5 4), 3, none⟩)),
   is (.slice ((adj k)) ((js k).ms.length) ((kpj k))),
   ab fun v W => OwI w.heap.size (js k).ms (js k).ms.length v W,
   is (.pointer (some ⟨(s5 4), 3, none⟩))])
   ⟨is_k, is_k, ab_k fun v W W' hb h => h.below hb, is_k, trivial⟩
   ⟨fun f s W c d i l m a => opv rfl rfl (by simp [go_sem, a.e 4 k5_4]) rfl,
  fun f s W c d i l m a => opv rfl rfl (by simp [go_sem, a.e 16 (d 0 rfl), cb nb6 c 3]) rfl,
  fun f s W c d i l m a => by have n := below_trans fB6 c; exact opDo_call rfl rfl (by simp [go_sem, a.e 17 (d 1 rfl)]) (arm_ints_own (adj k) (kpj k) (js k).ms.length (js k).ms W ((hJ.below n).2 k (by omega)).2.2.2.2 (hml k (by omega)).2 (hml k (by omega)).1) ((fun e W' h => by obtain ⟨v, e1, ⟨g_, c_, e2, h1⟩, h2⟩ := h; exact ⟨v, e1, h2, ⟨g_, c_, e2, h1.low n.size⟩⟩)),
  fun f s W c d i l m a => opv rfl rfl (by simp [go_sem, a.e 4 k5_4]) rfl, trivial⟩ ?_
  intro f7 s7 W7 hB7 g7 hg7
  have fB7 := hB7.f fB6
  have z7 := hB7.below.size
  have b7_0 := hB7.b nb6
  have q12' := (q10'.below hB7.below)
  have q13' := (q11'.below hB7.below)
  obtain ⟨g14', c15', r7_2, q16'⟩ := hB7.is 2
  have k7_0 := kt hg7 0 k5_0
  have k7_3 := kt hg7 3 k5_3
  have k7_2 := kt hg7 2 k5_2
  have k7_4 := kt hg7 4 k5_4
  have k7_18 := kt hg7 18 r7_2
  have k7_19 := kt hg7 19 (hB7.is 3)
  obtain ⟨W8, hW8⟩ : ∃ W', W' = W7.setRow (s5 4) #[.int .i64 (((js k).kd : Int)), .int .i64 ((js k).rd), .int .i64 ((js k).du), .slice (some ⟨g14', 0, none⟩) ((js k).ms.length) (c15')] := ⟨_, rfl⟩
  refine tail_skip (o := _) rfl ⟨rfl, rfl⟩ (run_seg hW8 (fr_ev k7_19) (fr_ev k7_18) b7_0 rfl rfl rfl rfl) ?_
  obtain ⟨fB8, nb8, ot8, z8⟩ := seg_facts hW8 fB7 b7_0 (by omega)
  clear hW8
  have q17' := q12'.other ot8 (fun g e => by have := limA g e; omega) z8
  have q18' := q13'.other ot8 (b7_0) z8
  have q19' := q16'.other ot8 (ownN_ne (.inr ⟨_, rfl, q16'⟩) b7_0 (by decide) _ rfl) z8
  refine wpOps_end ?_
  refine hK10 _ _ ?_
  refine region_dk 3 [(20, 0), (21, 1), (22, 2), (23, 3), (2, 4)] [[], [], [1], [0, 1, 2], [0, 1, 2, 3]] (rel [is (.slice (aq) (k) (cq)),
   is (.agg #[.int .i64 (((js k).kd : Int)), .int .i64 ((js k).rd), .int .i64 ((js k).du), .slice (some ⟨g14', 0, none⟩) ((js k).ms.length) (c15')]),
   row 2 1 #[.int .i64 (((js k).kd : Int)), .int .i64 ((js k).rd), .int .i64 ((js k).du), .slice (some ⟨g14', 0, none⟩) ((js k).ms.length) (c15')] 32])
   ⟨is_k, is_k, row_k, trivial⟩
   ⟨fun f s W c d i l m a => opv rfl rfl (by simp [go_sem, a.e 2 ((l 4 2 rfl rfl).trans k7_2)]) rfl,
  fun f s W c d i l m a => opv rfl rfl (by simp [go_sem, a.e 4 k7_4, cb nb8 c 0, cb nb8 c 1, cb nb8 c 2, cb nb8 c 3]) rfl,
  fun f s W c d i l m a => opr rfl rfl (by simp [go_sem, a.e 21 (d 1 rfl)]), trivial⟩ ?_
  intro f9 s9 W9 hB9 g9 hg9
  have fB9 := hB9.f fB8
  have z9 := hB9.below.size
  have b9_0 := hB9.b nb8
  have q20' := (q17'.below hB9.below)
  have q21' := (q18'.below hB9.below)
  have q22' := (q19'.below hB9.below)
  obtain ⟨r9_2, br9_2⟩ := hB9.is 2
  have lr9_2 := hB9.lr 2 br9_2
  have k9_0 := kt hg9 0 k7_0
  have k9_3 := kt hg9 3 k7_3
  have k9_20 := kt hg9 20 (hB9.is 0)
  have k9_22 := kt hg9 22 r9_2
  obtain ⟨ga10, ca10, W10, ra10, ow10, ot10, z10, gg10, fB10⟩ := growN_tail 30 30 32 4 48 _ (by kernel_rfl) fl_infoJ rfl (cs ++ [.int .i64 (((js k).kd : Int)), .int .i64 ((js k).rd), .int .i64 ((js k).du), .slice (some ⟨g14', 0, none⟩) ((js k).ms.length) (c15')]) (k + 1) (off := 0) (k := 1) (c' := 1) [.int .i64 (((js k).kd : Int)), .int .i64 ((js k).rd), .int .i64 ((js k).du), .slice (some ⟨g14', 0, none⟩) ((js k).ms.length) (c15')] fB9 q20' rfl rfl rfl rfl (cells_at br9_2) (by omega)
  have su10 := JbC.snoc q21' q20' ot10 z10 q22'
  refine tail_value2 (o := _) rfl rfl rfl (run_appendOp (fr_ev k9_20) (fr_ev k9_22) ra10) ?_
  have on10 : OwnN 32 4 w.heap.size (k + 1) (cs ++ [.int .i64 (((js k).kd : Int)), .int .i64 ((js k).rd), .int .i64 ((js k).du), .slice (some ⟨g14', 0, none⟩) ((js k).ms.length) (c15')]) (some ⟨ga10, 0, none⟩) ca10 W10 := .inr ⟨_, rfl, ow10⟩
  generalize hg10 : upd g9 23 (.slice (some ⟨ga10, 0, none⟩) ((k + 1)) (ca10)) = g10
  have k10_0 := ku hg10 0 k9_0
  have k10_3 := ku hg10 3 k9_3
  have k10_23 := kt hg10 23 (upd_same _ _ _)
  refine tail_value (o := _) rfl rfl rfl (v := .slice (some ⟨ga10, 0, none⟩) ((k + 1)) (ca10)) (by simp [go_sem, frv 25 k10_23]) ?_
  generalize hg11 : upd g10 2 (.slice (some ⟨ga10, 0, none⟩) ((k + 1)) (ca10)) = g11
  have k11_0 := ku hg11 0 k10_0
  have k11_3 := ku hg11 3 k10_3
  have k11_2 := kt hg11 2 (upd_same _ _ _)
  refine wpOps_end ?_
  refine inBlock_normal ?_
  refine hK8 _ _ ?_
  refine region_dk 3 [(10, 0), (11, 1), (3, 2)] [[], [0], [0, 1]] (rel [is (.int .i64 ((k : Int))),
   is (.int .i64 ((k : Int) + 1)),
   is (.int .i64 ((k : Int) + 1))])
   ⟨is_k, is_k, is_k, trivial⟩
   ⟨fun f s W c d i l m a => opv rfl rfl (by simp [go_sem, a.e 3 ((l 2 3 rfl rfl).trans k11_3)]) rfl,
  fun f s W c d i l m a => opv rfl rfl (by simp [go_sem, a.e 10 (d 0 rfl), IntWalk.i64_in ((k : Int) + 1) (by omega)]) rfl,
  fun f s W c d i l m a => opv rfl rfl (by simp [go_sem, a.e 11 (d 1 rfl)]) rfl, trivial⟩ ?_
  intro f12 s12 W12 hB12 g12 hg12
  have fB12 := hB12.f fB10
  have z12 := hB12.below.size
  have q23' := (on10.below hB12.below)
  have q24' := (su10.below hB12.below)
  refine wpOps_end ?_
  have k12_0 := kt hg12 0 k11_0
  have k12_2 := kt hg12 2 k11_2
  have k12_3 := kt hg12 3 (hB12.is 2)
  refine then_normal ?_
  exact ⟨_, by omega, g12, rfl, k + 1, some ⟨ga10, 0, none⟩, ca10, (cs ++ [.int .i64 (((js k).kd : Int)), .int .i64 ((js k).rd), .int .i64 ((js k).du), .slice (some ⟨g14', 0, none⟩) ((js k).ms.length) (c15')]), rfl, k12_0, k12_3.trans (by go_num), k12_2.trans (by go_num), fB12, (by omega), q23', q24', (by omega)⟩
 ·
  have hc7' := hc7; try simp only [ba] at hc7'
  have hkn : k = nj := by omega
  refine wp_exit ?_
  refine then_exit ?_
  refine then_exit ?_
  refine inBlock_at ?_
  refine hK3 _ _ ?_
  refine wp_seq_k fun K11 hK11 => ?_
  refine region_dk 2 [(24, 0), (1, 1)] [[], [0]] (rel [is (.slice (aq) (k) (cq)),
   is (.slice (aq) (k) (cq))])
   ⟨is_k, is_k, trivial⟩
   ⟨fun f s W c d i l m a => opv rfl rfl (by simp [go_sem, a.e 2 k4_2]) rfl,
  fun f s W c d i l m a => opv rfl rfl (by simp [go_sem, a.e 24 (d 0 rfl)]) rfl, trivial⟩ ?_
  intro f13 s13 W13 hB13 g13 hg13
  have fB13 := hB13.f fB4
  have z13 := hB13.below.size
  have q25' := (q6'.below hB13.below)
  have q26' := (q7'.below hB13.below)
  refine hK11 _ _ ?_
  have k13_1 := kt hg13 1 (hB13.is 1)
  refine wp_ret ?_
  refine leave_one (N := 25) (v := .slice (aq) (k) (cq)) (.inr rfl) Try.results5 rfl k13_1 ?_
  have e_ : k = nj := by omega
  subst e_
  obtain ⟨b_, ad_, cp_, e2_, h_⟩ := JbC.row h0 q26' q25'
  subst e2_
  exact ⟨_, rfl, ⟨_, _, _, _, rfl, h_⟩, fB13⟩
end Go.Proofs.Ytcgccflcjejlhaa
