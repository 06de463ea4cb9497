/- Part of the proof: what the claim leans on. -/
import Derived.Test.YtiocklgakklkpaaNAS
set_option linter.unusedSimpArgs false
set_option linter.unusedVariables false
namespace Go.Proofs.Ytiocklgakklkpaa
open Go.RowKit
/-- A slice of bytes, and the byte that is used for a place of it. -/
def ByV (W : World) (a : Option Addr) (n : Nat) (bs : Nat → Int) : Prop := n = 0 ∨ ∃ b o, a = some ⟨b, o, none⟩ ∧ ByR W b o n bs ∧ n ≤ 9223372036854775807 ∧ ∀ i, i < n → 0 ≤ bs i ∧ bs i ≤ 255
def byAt (n : Nat) (bs : Nat → Int) (k : Nat) : Int := if n = 0 then 0 else bs (k % n)
theorem ByV.below {W W' : World} {a : Option Addr} {n : Nat} {bs : Nat → Int} (h : ByV W a n bs) (hb : Below W.heap.size W W') : ByV W' a n bs := by
  rcases h with h | ⟨b, o, e, h1, h2, h3⟩
  · exact .inl h
  · exact .inr ⟨b, o, e, h1.below hb, h2, h3⟩
theorem ByV.at {W : World} {a : Option Addr} {n : Nat} {bs : Nat → Int} (h : ByV W a n bs) (k : Nat) : 0 ≤ byAt n bs k ∧ byAt n bs k ≤ 255 := by
  unfold byAt
  rcases h with h | ⟨b, o, e, h1, h2, h3⟩
  · rw [if_pos h]; omega
  · split
    · omega
    · exact h3 _ (Nat.mod_lt _ (by omega))
theorem pubByte_any (a : Option Addr) (n c : Nat) (bs : Nat → Int) (k : Nat) (w : World) (h : ByV w a n bs) (hk : k ≤ 1000) :
    Calls Try.prog 27 #[.slice a n c, .int .i64 k] w (fun e w' => e = .returned (.int .i64 (byAt n bs k)) ∧ Below w.heap.size w w') := by
  by_cases h0 : n = 0
  · subst h0
    have := pubByte_nil a c (k : Int) w
    simpa [byAt] using this
  · rcases h with h | ⟨b, o, rfl, h1, h2, h3⟩
    · exact absurd h h0
    · have hl : k % n < n := Nat.mod_lt _ (by omega)
      have := pubByte_at bs b o n c (k : Int) (k % n) w h1 (by omega) (by omega) (by simp) (h3 _ hl)
      rw [show byAt n bs k = bs (k % n) from by unfold byAt; rw [if_neg h0]]
      exact this
set_option maxRecDepth 100000 in
set_option maxHeartbeats 8000000 in
theorem pubCaliper_1 (ps : Nat → Pa) (qs : Nat → Fu) (bp oP np cp bq oq nq cq : Nat) (tx ux cx tf uf cf pa0 pa1 pa2 fa0 : Nat) (PA0 PA1 PA2 : Pa) (FA0 : Fu) (ta : Option Addr) (tn tc : Nat) (bs yy qq : Nat → Int) (w : World) (hP : PaR w bp oP np ps) (hQ : FuR w bq oq nq qs) (hpi : ∀ i, i < np → PaIn (ps i)) (hqi : ∀ i, i < nq → FuIn (qs i)) (np1 : 1 ≤ np) (np8 : np ≤ 8) (nq1 : 1 ≤ nq) (nq4 : nq ≤ 4) (hX : Ii w (some ⟨tx, ux, none⟩) 3 cx [(pa0 : Int), (pa1 : Int), (pa2 : Int)]) (hF : Ii w (some ⟨tf, uf, none⟩) 1 cf [(fa0 : Int)]) (hpa0 : pa0 < np) (epa0 : ps pa0 = PA0) (hpa1 : pa1 < np) (epa1 : ps pa1 = PA1) (hpa2 : pa2 < np) (epa2 : ps pa2 = PA2) (hfa0 : fa0 < nq) (efa0 : qs fa0 = FA0) (hk0 : PA0.kind = 1) (hk1 : PA1.kind = 2) (hk2 : PA2.kind = 1) (hT : ByV w ta tn bs) (hy0 : byAt tn bs 0 = yy 0) (gm0 : 0 ≤ yy 0 * (PA0.t2 - PA0.t1) ∧ yy 0 * (PA0.t2 - PA0.t1) ≤ 100000000) (hq0 : yy 0 * (PA0.t2 - PA0.t1) / 255 = qq 0) (gq0 : 0 ≤ qq 0 ∧ qq 0 ≤ 20000) (hy1 : byAt tn bs 1 = yy 1) (gm1 : 0 ≤ yy 1 * (FA0.h2 - FA0.h1) ∧ yy 1 * (FA0.h2 - FA0.h1) ≤ 100000000) (hq1 : yy 1 * (FA0.h2 - FA0.h1) / 255 = qq 1) (gq1 : 0 ≤ qq 1 ∧ qq 1 ≤ 20000) (hy2 : byAt tn bs 2 = yy 2) (gm2 : 0 ≤ yy 2 * (PA2.t2 - PA2.t1) ∧ yy 2 * (PA2.t2 - PA2.t1) ≤ 100000000) (hq2 : yy 2 * (PA2.t2 - PA2.t1) / 255 = qq 2) (gq2 : 0 ≤ qq 2 ∧ qq 2 ≤ 20000) :
  Calls Try.prog 14 #[.agg #[.slice (some ⟨bp, oP, none⟩) (np) (cp), .slice (some ⟨bq, oq, none⟩) (nq) (cq)], .agg #[.slice (some ⟨tx, ux, none⟩) (3) (cx), .slice (some ⟨tf, uf, none⟩) (1) (cf)], .slice (ta) (tn) (tc)] w (fun e w' => e = .returned (.int .i64 (((PA0.t1 + (qq 0)) + (FA0.h1 + (qq 1))) + (PA2.t1 + (qq 2)))) ∧ Below w.heap.size w w') := by
 have gi0 := (epa0 ▸ hpi pa0 hpa0 : PaIn PA0).thick
 have gi1 := (epa1 ▸ hpi pa1 hpa1 : PaIn PA1).thick
 have gi2 := (epa2 ▸ hpi pa2 hpa2 : PaIn PA2).thick
 have gj0 := (efa0 ▸ hqi fa0 hfa0 : FuIn FA0).high
 refine calls_fr Try.func14 Try.ntmps14 rfl rfl fun g hg => ?_
 have k0 : g 0 = .agg #[.slice (some ⟨bp, oP, none⟩) (np) (cp), .slice (some ⟨bq, oq, none⟩) (nq) (cq)] := hg 0
 have k1 : g 1 = .agg #[.slice (some ⟨tx, ux, none⟩) (3) (cx), .slice (some ⟨tf, uf, none⟩) (1) (cf)] := hg 1
 have k2 : g 2 = .slice (ta) (tn) (tc) := hg 2
 clear hg
 have fB0 : Below w.heap.size w w := Below.refl _ _
 refine wp_seq_k fun K1 hK1 => ?_
 refine region_dk 3 [(3, 0), (4, 1), (6, 2)] [[], [], []] (rel [bx 0 #[.slice (some ⟨bp, oP, none⟩) (np) (cp), .slice (some ⟨bq, oq, none⟩) (nq) (cq)] 33,
   bx 1 #[.slice (some ⟨tx, ux, none⟩) (3) (cx), .slice (some ⟨tf, uf, none⟩) (1) (cf)] 46,
   is (.int .i64 0)])
  ⟨bx_k, bx_k, is_k, trivial⟩
  ⟨fun f s W c d j k l a => opb rfl rfl (by simp [go_sem, a.e 0 k0]),
  fun f s W c d j k l a => opb rfl rfl (by simp [go_sem, a.e 1 k1]),
  fun f s W c d j k l a => opv rfl rfl (by simp [go_sem]) rfl, trivial⟩ ?_
 intro f1 s1 W1 hB1 g1 hg1
 have fB1 := hB1.f fB0
 have z1 := hB1.below.size
 obtain ⟨r1_0, br1_0⟩ := hB1.is 0
 have lr1_0 := hB1.lr 0 br1_0
 obtain ⟨r1_1, br1_1⟩ := hB1.is 1
 have lr1_1 := hB1.lr 1 br1_1
 have ne1_0_1 := hB1.nb 0 1
 refine hK1 _ _ ?_
 have k1_2 := kt hg1 2 k2
 have k1_3 := kt hg1 3 r1_0
 have k1_4 := kt hg1 4 r1_1
 have k1_6 := kt hg1 6 (hB1.is 2)
 refine wp_seq_k fun K2 hK2 => ?_
 refine region_dk 1 [(7, 0)] [[]] (rel [is (.int .i64 0)])
  ⟨is_k, trivial⟩
  ⟨fun f s W c d j k l a => opv rfl rfl (by simp [go_sem]) rfl, trivial⟩ ?_
 intro f2 s2 W2 hB2 g2 hg2
 have fB2 := hB2.f fB1
 have z2 := hB2.below.size
 have b2_0 := hB2.b br1_0
 have b2_1 := hB2.b br1_1
 refine hK2 _ _ ?_
 have k2_2 := kt hg2 2 k1_2
 have k2_3 := kt hg2 3 k1_3
 have k2_4 := kt hg2 4 k1_4
 have k2_6 := kt hg2 6 k1_6
 have k2_7 := kt hg2 7 (hB2.is 0)
 refine wp_seq_k fun K3 hK3 => ?_
 refine wp_seq_k fun K4 hK4 => ?_
 refine region_dk 1 [(8, 0)] [[]] (rel [is (.int .i64 0)])
  ⟨is_k, trivial⟩
  ⟨fun f s W c d j k l a => opv rfl rfl (by simp [go_sem]) rfl, trivial⟩ ?_
 intro f3 s3 W3 hB3 g3 hg3
 have fB3 := hB3.f fB2
 have z3 := hB3.below.size
 have b3_0 := hB3.b b2_0
 have b3_1 := hB3.b b2_1
 refine hK4 _ _ ?_
 have k3_2 := kt hg3 2 k2_2
 have k3_3 := kt hg3 3 k2_3
 have k3_4 := kt hg3 4 k2_4
 have k3_6 := kt hg3 6 k2_6
 have k3_7 := kt hg3 7 k2_7
 have k3_8 := kt hg3 8 (hB3.is 0)
 refine wp_block ?_
 refine wp_loop_rounds 4 ?_
 rw [rounds_succ]
 refine wp_seq_k fun K5 hK5 => ?_
 refine wp_seq_k fun K6 hK6 => ?_
 refine region_dk 5 [(9, 0), (10, 1), (11, 2), (12, 3), (13, 4)] [[], [], [1], [1, 2], [0, 1, 2, 3]] (rel [is (.int .i64 0),
   is (.pointer (some ⟨(s1 1), 0, none⟩)),
   is (.slice (some ⟨tx, ux, none⟩) (3) (cx)),
   is (.int .i64 3),
   is (.bool true)])
  ⟨is_k, is_k, is_k, is_k, is_k, trivial⟩
  ⟨fun f s W c d j k l a => opv rfl rfl (by simp [go_sem, a.e 8 k3_8]) rfl,
  fun f s W c d j k l a => opv rfl rfl (by simp [go_sem, a.e 4 k3_4]) rfl,
  fun f s W c d j k l a => opv rfl rfl (by simp [go_sem, a.e 10 (d 1 rfl), cb b3_1 c 0]) rfl,
  fun f s W c d j k l a => opv rfl rfl (by simp [go_sem, a.e 11 (d 2 rfl)]) rfl,
  fun f s W c d j k l a => opv rfl rfl (by simp [go_sem, a.e 9 (d 0 rfl), a.e 12 (d 3 rfl)]) rfl, trivial⟩ ?_
 intro f4 s4 W4 hB4 g4 hg4
 have fB4 := hB4.f fB3
 have z4 := hB4.below.size
 have b4_0 := hB4.b b3_0
 have b4_1 := hB4.b b3_1
 refine hK6 _ _ ?_
 have k4_2 := kt hg4 2 k3_2
 have k4_3 := kt hg4 3 k3_3
 have k4_4 := kt hg4 4 k3_4
 have k4_6 := kt hg4 6 k3_6
 have k4_7 := kt hg4 7 k3_7
 have k4_8 := kt hg4 8 k3_8
 have k4_13 := kt hg4 13 (hB4.is 4)
 refine wp_cond_true ((fr_eval rfl).trans k4_13) ?_
 refine wp_skip ?_
 refine hK5 _ _ ?_
 refine wp_seq_k fun K8 hK8 => ?_
 refine wp_block ?_
 refine wp_seq_k fun K9 hK9 => ?_
 refine region_dk 3 [(16, 0), (17, 1), (18, 2)] [[], [0], [0, 1]] (rel [is (.int .i64 0),
   is (.int .i64 0),
   is (.bool true)])
  ⟨is_k, is_k, is_k, trivial⟩
  ⟨fun f s W c d j k l a => opv rfl rfl (by simp [go_sem, a.e 8 k4_8]) rfl,
  fun f s W c d j k l a => by have qw_ := IntWalk.i64_in (0) (by decide); exact opv rfl rfl (by simp [go_sem, a.e 16 (d 0 rfl), qw_]) rfl,
  fun f s W c d j k l a => opv rfl rfl (by simp [go_sem, a.e 17 (d 1 rfl)]) rfl, trivial⟩ ?_
 intro f5 s5 W5 hB5 g5 hg5
 have fB5 := hB5.f fB4
 have z5 := hB5.below.size
 have b5_0 := hB5.b b4_0
 have b5_1 := hB5.b b4_1
 refine hK9 _ _ ?_
 have k5_2 := kt hg5 2 k4_2
 have k5_3 := kt hg5 3 k4_3
 have k5_4 := kt hg5 4 k4_4
 have k5_6 := kt hg5 6 k4_6
 have k5_7 := kt hg5 7 k4_7
 have k5_8 := kt hg5 8 k4_8
 have k5_13 := kt hg5 13 k4_13
 have k5_18 := kt hg5 18 (hB5.is 2)
 refine wp_cond_true ((fr_eval rfl).trans k5_18) ?_
 refine region_dk 17 [(19, 0), (20, 1), (21, 2), (22, 3), (23, 4), (24, 5), (25, 6), (26, 7), (27, 8), (28, 9), (29, 10), (30, 11), (31, 12), (32, 13), (33, 14), (34, 15), (7, 16)] [[], [], [1], [], [3], [], [3, 4, 5], [3, 4, 5, 6], [1, 2, 3, 4, 5, 6, 7], [1, 2, 3, 4, 5, 6, 7, 8], [1, 2, 3, 4, 5, 6, 7, 8, 9], [], [], [11, 12], [1, 2, 3, 4, 5, 6, 7, 8, 9, 10, 11, 12, 13], [0, 1, 2, 3, 4, 5, 6, 7, 8, 9, 10, 11, 12, 13, 14], [0, 1, 2, 3, 4, 5, 6, 7, 8, 9, 10, 11, 12, 13, 14, 15]] (rel [is (.int .i64 0),
   is (.pointer (some ⟨(s1 0), 0, none⟩)),
   is (.slice (some ⟨bp, oP, none⟩) (np) (cp)),
   is (.pointer (some ⟨(s1 1), 0, none⟩)),
   is (.slice (some ⟨tx, ux, none⟩) (3) (cx)),
   is (.int .i64 0),
   is (.pointer (some ⟨tx, ux, none⟩)),
   is (.int .i64 ((pa0 : Int))),
   is (.pointer (some ⟨bp, oP + pa0 * 8, none⟩)),
   is (.pointer (some ⟨bp, oP + pa0 * 8 + 2, none⟩)),
   is (.agg #[.int .i64 PA0.t1, .int .i64 PA0.t2]),
   is (.slice (ta) (tn) (tc)),
   is (.int .i64 0),
   is (.int .i64 ((yy 0))),
   is (.int .i64 ((PA0.t1 + (qq 0)))),
   is (.int .i64 ((PA0.t1 + (qq 0)))),
   is (.int .i64 ((PA0.t1 + (qq 0))))])
  ⟨is_k, is_k, is_k, is_k, is_k, is_k, is_k, is_k, is_k, is_k, is_k, is_k, is_k, is_k, is_k, is_k, is_k, trivial⟩
  ⟨fun f s W c d j k l a => opv rfl rfl (by simp [go_sem, a.e 7 ((k 16 7 rfl rfl).trans k5_7)]) rfl,
  fun f s W c d j k l a => opv rfl rfl (by simp [go_sem, a.e 3 k5_3]) rfl,
  fun f s W c d j k l a => opv rfl rfl (by simp [go_sem, a.e 20 (d 1 rfl), cb b5_0 c 0]) rfl,
  fun f s W c d j k l a => opv rfl rfl (by simp [go_sem, a.e 4 k5_4]) rfl,
  fun f s W c d j k l a => opv rfl rfl (by simp [go_sem, a.e 22 (d 3 rfl), cb b5_1 c 0]) rfl,
  fun f s W c d j k l a => opv rfl rfl (by simp [go_sem, a.e 8 k5_8]) rfl,
  fun f s W c d j k l a => opv rfl rfl (by simp [go_sem, a.e 23 (d 4 rfl), a.e 24 (d 5 rfl)]) rfl,
  fun f s W c d j k l a => by have m := below_trans fB5 c; have cu : W.cell? ⟨tx, ux, none⟩ = some (.int .i64 (pa0 : Int)) := ii_cell (hX.below m (Nat.le_refl _)) 0 (by simp); exact opv rfl rfl (by simp [go_sem, a.e 25 (d 6 rfl), cu]) rfl,
  fun f s W c d j k l a => by have li_ := Nat.not_le.2 hpa0; have lz_ : (pa0 : Int) < (np : Int) := (by omega); exact opv rfl rfl (by simp [go_sem, a.e 21 (d 2 rfl), a.e 26 (d 7 rfl), li_, hpa0, lz_]) rfl,
  fun f s W c d j k l a => opv rfl rfl (by simp [go_sem, a.e 27 (d 8 rfl)]) rfl,
  fun f s W c d j k l a => by have m := below_trans fB5 c; have E_ := (hP.below m).2 pa0 hpa0; rw [epa0] at E_; obtain ⟨u0_, u1_, u2_, u3_, u4_, u5_, u6_, u7_⟩ := E_; have v0_ : W.cell? ⟨bp, oP + pa0 * 8 + 2, none⟩ = some (.int .i64 PA0.t1) := u2_; have v1_ : W.cell? ⟨bp, oP + pa0 * 8 + 2 + 1, none⟩ = some (.int .i64 PA0.t2) := u3_; exact opv rfl rfl (by simp [go_sem, a.e 28 (d 9 rfl), v0_, v1_]) rfl,
  fun f s W c d j k l a => opv rfl rfl (by simp [go_sem, a.e 2 k5_2]) rfl,
  fun f s W c d j k l a => opv rfl rfl (by simp [go_sem, a.e 8 k5_8]) rfl,
  fun f s W c d j k l a => by have m := below_trans fB5 c; exact opDo_call rfl rfl (by simp [go_sem, a.e 30 (d 11 rfl), a.e 31 (d 12 rfl)]) (pubByte_any ta tn tc bs 0 W (hT.below m) (by decide)) ((fun e W' h => by have h1 := h.1; rw [hy0] at h1; exact ⟨_, h1, h.2, rfl⟩)),
  fun f s W c d j k l a => opc rfl rfl (by simp [go_sem, a.e 29 (d 10 rfl), a.e 32 (d 13 rfl)]) (pubIn_any (PA0.t1) (PA0.t2) (yy 0) (qq 0) W (by omega) gm0 hq0 (by omega)),
  fun f s W c d j k l a => opv rfl rfl (by simp [go_sem, a.e 19 (d 0 rfl), a.e 33 (d 14 rfl), IntWalk.i64_in ((PA0.t1 + (qq 0))) (by omega)]) rfl,
  fun f s W c d j k l a => opv rfl rfl (by simp [go_sem, a.e 34 (d 15 rfl)]) rfl, trivial⟩ ?_
 intro f6 s6 W6 hB6 g6 hg6
 have fB6 := hB6.f fB5
 have z6 := hB6.below.size
 have b6_0 := hB6.b b5_0
 have b6_1 := hB6.b b5_1
 refine wpOps_end ?_
 have k6_2 := kt hg6 2 k5_2
 have k6_3 := kt hg6 3 k5_3
 have k6_4 := kt hg6 4 k5_4
 have k6_6 := kt hg6 6 k5_6
 have k6_8 := kt hg6 8 k5_8
 have k6_13 := kt hg6 13 k5_13
 have k6_18 := kt hg6 18 k5_18
 have k6_7 := kt hg6 7 (hB6.is 16)
 refine inBlock_normal ?_
 refine hK8 _ _ ?_
 refine region_dk 3 [(14, 0), (15, 1), (8, 2)] [[], [0], [0, 1]] (rel [is (.int .i64 0),
   is (.int .i64 1),
   is (.int .i64 1)])
  ⟨is_k, is_k, is_k, trivial⟩
  ⟨fun f s W c d j k l a => opv rfl rfl (by simp [go_sem, a.e 8 ((k 2 8 rfl rfl).trans k6_8)]) rfl,
  fun f s W c d j k l a => opv rfl rfl (by simp [go_sem, a.e 14 (d 0 rfl), IntWalk.i64_in (1) (by omega)]) rfl,
  fun f s W c d j k l a => opv rfl rfl (by simp [go_sem, a.e 15 (d 1 rfl)]) rfl, trivial⟩ ?_
 intro f7 s7 W7 hB7 g7 hg7
 have fB7 := hB7.f fB6
 have z7 := hB7.below.size
 have b7_0 := hB7.b b6_0
 have b7_1 := hB7.b b6_1
 refine wpOps_end ?_
 have k7_2 := kt hg7 2 k6_2
 have k7_3 := kt hg7 3 k6_3
 have k7_4 := kt hg7 4 k6_4
 have k7_6 := kt hg7 6 k6_6
 have k7_13 := kt hg7 13 k6_13
 have k7_18 := kt hg7 18 k6_18
 have k7_7 := kt hg7 7 k6_7
 have k7_8 := kt hg7 8 (hB7.is 2)
 refine then_normal ?_
 rw [rounds_succ]
 refine wp_seq_k fun K11 hK11 => ?_
 refine wp_seq_k fun K12 hK12 => ?_
 refine region_dk 5 [(9, 0), (10, 1), (11, 2), (12, 3), (13, 4)] [[], [], [1], [1, 2], [0, 1, 2, 3]] (rel [is (.int .i64 1),
   is (.pointer (some ⟨(s1 1), 0, none⟩)),
   is (.slice (some ⟨tx, ux, none⟩) (3) (cx)),
   is (.int .i64 3),
   is (.bool true)])
  ⟨is_k, is_k, is_k, is_k, is_k, trivial⟩
  ⟨fun f s W c d j k l a => opv rfl rfl (by simp [go_sem, a.e 8 k7_8]) rfl,
  fun f s W c d j k l a => opv rfl rfl (by simp [go_sem, a.e 4 k7_4]) rfl,
  fun f s W c d j k l a => opv rfl rfl (by simp [go_sem, a.e 10 (d 1 rfl), cb b7_1 c 0]) rfl,
  fun f s W c d j k l a => opv rfl rfl (by simp [go_sem, a.e 11 (d 2 rfl)]) rfl,
  fun f s W c d j k l a => opv rfl rfl (by simp [go_sem, a.e 9 (d 0 rfl), a.e 12 (d 3 rfl)]) rfl, trivial⟩ ?_
 intro f8 s8 W8 hB8 g8 hg8
 have fB8 := hB8.f fB7
 have z8 := hB8.below.size
 have b8_0 := hB8.b b7_0
 have b8_1 := hB8.b b7_1
 refine hK12 _ _ ?_
 have k8_2 := kt hg8 2 k7_2
 have k8_3 := kt hg8 3 k7_3
 have k8_4 := kt hg8 4 k7_4
 have k8_6 := kt hg8 6 k7_6
 have k8_18 := kt hg8 18 k7_18
 have k8_7 := kt hg8 7 k7_7
 have k8_8 := kt hg8 8 k7_8
 have k8_13 := kt hg8 13 (hB8.is 4)
 refine wp_cond_true ((fr_eval rfl).trans k8_13) ?_
 refine wp_skip ?_
 refine hK11 _ _ ?_
 refine wp_seq_k fun K14 hK14 => ?_
 refine wp_block ?_
 refine wp_seq_k fun K15 hK15 => ?_
 refine region_dk 3 [(16, 0), (17, 1), (18, 2)] [[], [0], [0, 1]] (rel [is (.int .i64 1),
   is (.int .i64 1),
   is (.bool false)])
  ⟨is_k, is_k, is_k, trivial⟩
  ⟨fun f s W c d j k l a => opv rfl rfl (by simp [go_sem, a.e 8 k8_8]) rfl,
  fun f s W c d j k l a => by have qw_ := IntWalk.i64_in (1) (by decide); exact opv rfl rfl (by simp [go_sem, a.e 16 (d 0 rfl), qw_]) rfl,
  fun f s W c d j k l a => opv rfl rfl (by simp [go_sem, a.e 17 (d 1 rfl)]) rfl, trivial⟩ ?_
 intro f9 s9 W9 hB9 g9 hg9
 have fB9 := hB9.f fB8
 have z9 := hB9.below.size
 have b9_0 := hB9.b b8_0
 have b9_1 := hB9.b b8_1
 refine hK15 _ _ ?_
 have k9_2 := kt hg9 2 k8_2
 have k9_3 := kt hg9 3 k8_3
 have k9_4 := kt hg9 4 k8_4
 have k9_6 := kt hg9 6 k8_6
 have k9_7 := kt hg9 7 k8_7
 have k9_8 := kt hg9 8 k8_8
 have k9_13 := kt hg9 13 k8_13
 have k9_18 := kt hg9 18 (hB9.is 2)
 refine wp_cond_false ((fr_eval rfl).trans k9_18) ?_
 refine region_dk 18 [(35, 0), (36, 1), (37, 2), (38, 3), (39, 4), (40, 5), (41, 6), (42, 7), (43, 8), (44, 9), (45, 10), (46, 11), (47, 12), (48, 13), (49, 14), (50, 15), (51, 16), (7, 17)] [[], [], [1], [], [3], [], [5], [3, 4, 5, 6], [3, 4, 5, 6, 7], [1, 2, 3, 4, 5, 6, 7, 8], [1, 2, 3, 4, 5, 6, 7, 8, 9], [1, 2, 3, 4, 5, 6, 7, 8, 9, 10], [], [], [12, 13], [1, 2, 3, 4, 5, 6, 7, 8, 9, 10, 11, 12, 13, 14], [0, 1, 2, 3, 4, 5, 6, 7, 8, 9, 10, 11, 12, 13, 14, 15], [0, 1, 2, 3, 4, 5, 6, 7, 8, 9, 10, 11, 12, 13, 14, 15, 16]] (rel [is (.int .i64 ((PA0.t1 + (qq 0)))),
   is (.pointer (some ⟨(s1 0), 1, none⟩)),
   is (.slice (some ⟨bq, oq, none⟩) (nq) (cq)),
   is (.pointer (some ⟨(s1 1), 1, none⟩)),
   is (.slice (some ⟨tf, uf, none⟩) (1) (cf)),
   is (.int .i64 1),
   is (.int .i64 0),
   is (.pointer (some ⟨tf, uf, none⟩)),
   is (.int .i64 ((fa0 : Int))),
   is (.pointer (some ⟨bq, oq + fa0 * 4, none⟩)),
   is (.pointer (some ⟨bq, oq + fa0 * 4 + 2, none⟩)),
   is (.agg #[.int .i64 FA0.h1, .int .i64 FA0.h2]),
   is (.slice (ta) (tn) (tc)),
   is (.int .i64 1),
   is (.int .i64 ((yy 1))),
   is (.int .i64 ((FA0.h1 + (qq 1)))),
   is (.int .i64 ((PA0.t1 + (qq 0)) + (FA0.h1 + (qq 1)))),
   is (.int .i64 ((PA0.t1 + (qq 0)) + (FA0.h1 + (qq 1))))])
  ⟨is_k, is_k, is_k, is_k, is_k, is_k, is_k, is_k, is_k, is_k, is_k, is_k, is_k, is_k, is_k, is_k, is_k, is_k, trivial⟩
  ⟨fun f s W c d j k l a => opv rfl rfl (by simp [go_sem, a.e 7 ((k 17 7 rfl rfl).trans k9_7)]) rfl,
  fun f s W c d j k l a => opv rfl rfl (by simp [go_sem, a.e 3 k9_3]) rfl,
  fun f s W c d j k l a => opv rfl rfl (by simp [go_sem, a.e 36 (d 1 rfl), cb b9_0 c 1]) rfl,
  fun f s W c d j k l a => opv rfl rfl (by simp [go_sem, a.e 4 k9_4]) rfl,
  fun f s W c d j k l a => opv rfl rfl (by simp [go_sem, a.e 38 (d 3 rfl), cb b9_1 c 1]) rfl,
  fun f s W c d j k l a => opv rfl rfl (by simp [go_sem, a.e 8 k9_8]) rfl,
  fun f s W c d j k l a => by have qw_ := IntWalk.i64_in (0) (by decide); exact opv rfl rfl (by simp [go_sem, a.e 40 (d 5 rfl), qw_]) rfl,
  fun f s W c d j k l a => opv rfl rfl (by simp [go_sem, a.e 39 (d 4 rfl), a.e 41 (d 6 rfl)]) rfl,
  fun f s W c d j k l a => by have m := below_trans fB9 c; have cu : W.cell? ⟨tf, uf, none⟩ = some (.int .i64 (fa0 : Int)) := ii_cell (hF.below m (Nat.le_refl _)) 0 (by simp); exact opv rfl rfl (by simp [go_sem, a.e 42 (d 7 rfl), cu]) rfl,
  fun f s W c d j k l a => by have li_ := Nat.not_le.2 hfa0; have lz_ : (fa0 : Int) < (nq : Int) := (by omega); exact opv rfl rfl (by simp [go_sem, a.e 37 (d 2 rfl), a.e 43 (d 8 rfl), li_, hfa0, lz_]) rfl,
  fun f s W c d j k l a => opv rfl rfl (by simp [go_sem, a.e 44 (d 9 rfl)]) rfl,
  fun f s W c d j k l a => by have m := below_trans fB9 c; have E_ := (hQ.below m).2 fa0 hfa0; rw [efa0] at E_; obtain ⟨u0_, u1_, u2_, u3_⟩ := E_; have v0_ : W.cell? ⟨bq, oq + fa0 * 4 + 2, none⟩ = some (.int .i64 FA0.h1) := u2_; have v1_ : W.cell? ⟨bq, oq + fa0 * 4 + 2 + 1, none⟩ = some (.int .i64 FA0.h2) := u3_; exact opv rfl rfl (by simp [go_sem, a.e 45 (d 10 rfl), v0_, v1_]) rfl,
  fun f s W c d j k l a => opv rfl rfl (by simp [go_sem, a.e 2 k9_2]) rfl,
  fun f s W c d j k l a => opv rfl rfl (by simp [go_sem, a.e 8 k9_8]) rfl,
  fun f s W c d j k l a => by have m := below_trans fB9 c; exact opDo_call rfl rfl (by simp [go_sem, a.e 47 (d 12 rfl), a.e 48 (d 13 rfl)]) (pubByte_any ta tn tc bs 1 W (hT.below m) (by decide)) ((fun e W' h => by have h1 := h.1; rw [hy1] at h1; exact ⟨_, h1, h.2, rfl⟩)),
  fun f s W c d j k l a => opc rfl rfl (by simp [go_sem, a.e 46 (d 11 rfl), a.e 49 (d 14 rfl)]) (pubIn_any (FA0.h1) (FA0.h2) (yy 1) (qq 1) W (by omega) gm1 hq1 (by omega)),
  fun f s W c d j k l a => opv rfl rfl (by simp [go_sem, a.e 35 (d 0 rfl), a.e 50 (d 15 rfl), IntWalk.i64_in ((PA0.t1 + (qq 0)) + (FA0.h1 + (qq 1))) (by omega)]) rfl,
  fun f s W c d j k l a => opv rfl rfl (by simp [go_sem, a.e 51 (d 16 rfl)]) rfl, trivial⟩ ?_
 intro f10 s10 W10 hB10 g10 hg10
 have fB10 := hB10.f fB9
 have z10 := hB10.below.size
 have b10_0 := hB10.b b9_0
 have b10_1 := hB10.b b9_1
 refine wpOps_end ?_
 have k10_2 := kt hg10 2 k9_2
 have k10_3 := kt hg10 3 k9_3
 have k10_4 := kt hg10 4 k9_4
 have k10_6 := kt hg10 6 k9_6
 have k10_8 := kt hg10 8 k9_8
 have k10_13 := kt hg10 13 k9_13
 have k10_18 := kt hg10 18 k9_18
 have k10_7 := kt hg10 7 (hB10.is 17)
 refine inBlock_normal ?_
 refine hK14 _ _ ?_
 refine region_dk 3 [(14, 0), (15, 1), (8, 2)] [[], [0], [0, 1]] (rel [is (.int .i64 1),
   is (.int .i64 2),
   is (.int .i64 2)])
  ⟨is_k, is_k, is_k, trivial⟩
  ⟨fun f s W c d j k l a => opv rfl rfl (by simp [go_sem, a.e 8 ((k 2 8 rfl rfl).trans k10_8)]) rfl,
  fun f s W c d j k l a => opv rfl rfl (by simp [go_sem, a.e 14 (d 0 rfl), IntWalk.i64_in (2) (by omega)]) rfl,
  fun f s W c d j k l a => opv rfl rfl (by simp [go_sem, a.e 15 (d 1 rfl)]) rfl, trivial⟩ ?_
 intro f11 s11 W11 hB11 g11 hg11
 have fB11 := hB11.f fB10
 have z11 := hB11.below.size
 have b11_0 := hB11.b b10_0
 have b11_1 := hB11.b b10_1
 refine wpOps_end ?_
 have k11_2 := kt hg11 2 k10_2
 have k11_3 := kt hg11 3 k10_3
 have k11_4 := kt hg11 4 k10_4
 have k11_6 := kt hg11 6 k10_6
 have k11_13 := kt hg11 13 k10_13
 have k11_18 := kt hg11 18 k10_18
 have k11_7 := kt hg11 7 k10_7
 have k11_8 := kt hg11 8 (hB11.is 2)
 refine then_normal ?_
 rw [rounds_succ]
 refine wp_seq_k fun K17 hK17 => ?_
 refine wp_seq_k fun K18 hK18 => ?_
 refine region_dk 5 [(9, 0), (10, 1), (11, 2), (12, 3), (13, 4)] [[], [], [1], [1, 2], [0, 1, 2, 3]] (rel [is (.int .i64 2),
   is (.pointer (some ⟨(s1 1), 0, none⟩)),
   is (.slice (some ⟨tx, ux, none⟩) (3) (cx)),
   is (.int .i64 3),
   is (.bool true)])
  ⟨is_k, is_k, is_k, is_k, is_k, trivial⟩
  ⟨fun f s W c d j k l a => opv rfl rfl (by simp [go_sem, a.e 8 k11_8]) rfl,
  fun f s W c d j k l a => opv rfl rfl (by simp [go_sem, a.e 4 k11_4]) rfl,
  fun f s W c d j k l a => opv rfl rfl (by simp [go_sem, a.e 10 (d 1 rfl), cb b11_1 c 0]) rfl,
  fun f s W c d j k l a => opv rfl rfl (by simp [go_sem, a.e 11 (d 2 rfl)]) rfl,
  fun f s W c d j k l a => opv rfl rfl (by simp [go_sem, a.e 9 (d 0 rfl), a.e 12 (d 3 rfl)]) rfl, trivial⟩ ?_
 intro f12 s12 W12 hB12 g12 hg12
 have fB12 := hB12.f fB11
 have z12 := hB12.below.size
 have b12_0 := hB12.b b11_0
 have b12_1 := hB12.b b11_1
 refine hK18 _ _ ?_
 have k12_2 := kt hg12 2 k11_2
 have k12_3 := kt hg12 3 k11_3
 have k12_4 := kt hg12 4 k11_4
 have k12_6 := kt hg12 6 k11_6
 have k12_18 := kt hg12 18 k11_18
 have k12_7 := kt hg12 7 k11_7
 have k12_8 := kt hg12 8 k11_8
 have k12_13 := kt hg12 13 (hB12.is 4)
 refine wp_cond_true ((fr_eval rfl).trans k12_13) ?_
 refine wp_skip ?_
 refine hK17 _ _ ?_
 refine wp_seq_k fun K20 hK20 => ?_
 refine wp_block ?_
 refine wp_seq_k fun K21 hK21 => ?_
 refine region_dk 3 [(16, 0), (17, 1), (18, 2)] [[], [0], [0, 1]] (rel [is (.int .i64 2),
   is (.int .i64 0),
   is (.bool true)])
  ⟨is_k, is_k, is_k, trivial⟩
  ⟨fun f s W c d j k l a => opv rfl rfl (by simp [go_sem, a.e 8 k12_8]) rfl,
  fun f s W c d j k l a => by have qw_ := IntWalk.i64_in (0) (by decide); exact opv rfl rfl (by simp [go_sem, a.e 16 (d 0 rfl), qw_]) rfl,
  fun f s W c d j k l a => opv rfl rfl (by simp [go_sem, a.e 17 (d 1 rfl)]) rfl, trivial⟩ ?_
 intro f13 s13 W13 hB13 g13 hg13
 have fB13 := hB13.f fB12
 have z13 := hB13.below.size
 have b13_0 := hB13.b b12_0
 have b13_1 := hB13.b b12_1
 refine hK21 _ _ ?_
 have k13_2 := kt hg13 2 k12_2
 have k13_3 := kt hg13 3 k12_3
 have k13_4 := kt hg13 4 k12_4
 have k13_6 := kt hg13 6 k12_6
 have k13_7 := kt hg13 7 k12_7
 have k13_8 := kt hg13 8 k12_8
 have k13_13 := kt hg13 13 k12_13
 have k13_18 := kt hg13 18 (hB13.is 2)
 refine wp_cond_true ((fr_eval rfl).trans k13_18) ?_
 refine region_dk 17 [(19, 0), (20, 1), (21, 2), (22, 3), (23, 4), (24, 5), (25, 6), (26, 7), (27, 8), (28, 9), (29, 10), (30, 11), (31, 12), (32, 13), (33, 14), (34, 15), (7, 16)] [[], [], [1], [], [3], [], [3, 4, 5], [3, 4, 5, 6], [1, 2, 3, 4, 5, 6, 7], [1, 2, 3, 4, 5, 6, 7, 8], [1, 2, 3, 4, 5, 6, 7, 8, 9], [], [], [11, 12], [1, 2, 3, 4, 5, 6, 7, 8, 9, 10, 11, 12, 13], [0, 1, 2, 3, 4, 5, 6, 7, 8, 9, 10, 11, 12, 13, 14], [0, 1, 2, 3, 4, 5, 6, 7, 8, 9, 10, 11, 12, 13, 14, 15]] (rel [is (.int .i64 ((PA0.t1 + (qq 0)) + (FA0.h1 + (qq 1)))),
   is (.pointer (some ⟨(s1 0), 0, none⟩)),
   is (.slice (some ⟨bp, oP, none⟩) (np) (cp)),
   is (.pointer (some ⟨(s1 1), 0, none⟩)),
   is (.slice (some ⟨tx, ux, none⟩) (3) (cx)),
   is (.int .i64 2),
   is (.pointer (some ⟨tx, ux + 2, none⟩)),
   is (.int .i64 ((pa2 : Int))),
   is (.pointer (some ⟨bp, oP + pa2 * 8, none⟩)),
   is (.pointer (some ⟨bp, oP + pa2 * 8 + 2, none⟩)),
   is (.agg #[.int .i64 PA2.t1, .int .i64 PA2.t2]),
   is (.slice (ta) (tn) (tc)),
   is (.int .i64 2),
   is (.int .i64 ((yy 2))),
   is (.int .i64 ((PA2.t1 + (qq 2)))),
   is (.int .i64 (((PA0.t1 + (qq 0)) + (FA0.h1 + (qq 1))) + (PA2.t1 + (qq 2)))),
   is (.int .i64 (((PA0.t1 + (qq 0)) + (FA0.h1 + (qq 1))) + (PA2.t1 + (qq 2))))])
  ⟨is_k, is_k, is_k, is_k, is_k, is_k, is_k, is_k, is_k, is_k, is_k, is_k, is_k, is_k, is_k, is_k, is_k, trivial⟩
  ⟨fun f s W c d j k l a => opv rfl rfl (by simp [go_sem, a.e 7 ((k 16 7 rfl rfl).trans k13_7)]) rfl,
  fun f s W c d j k l a => opv rfl rfl (by simp [go_sem, a.e 3 k13_3]) rfl,
  fun f s W c d j k l a => opv rfl rfl (by simp [go_sem, a.e 20 (d 1 rfl), cb b13_0 c 0]) rfl,
  fun f s W c d j k l a => opv rfl rfl (by simp [go_sem, a.e 4 k13_4]) rfl,
  fun f s W c d j k l a => opv rfl rfl (by simp [go_sem, a.e 22 (d 3 rfl), cb b13_1 c 0]) rfl,
  fun f s W c d j k l a => opv rfl rfl (by simp [go_sem, a.e 8 k13_8]) rfl,
  fun f s W c d j k l a => opv rfl rfl (by simp [go_sem, a.e 23 (d 4 rfl), a.e 24 (d 5 rfl)]) rfl,
  fun f s W c d j k l a => by have m := below_trans fB13 c; have cu : W.cell? ⟨tx, ux + 2, none⟩ = some (.int .i64 (pa2 : Int)) := ii_cell (hX.below m (Nat.le_refl _)) 2 (by simp); exact opv rfl rfl (by simp [go_sem, a.e 25 (d 6 rfl), cu]) rfl,
  fun f s W c d j k l a => by have li_ := Nat.not_le.2 hpa2; have lz_ : (pa2 : Int) < (np : Int) := (by omega); exact opv rfl rfl (by simp [go_sem, a.e 21 (d 2 rfl), a.e 26 (d 7 rfl), li_, hpa2, lz_]) rfl,
  fun f s W c d j k l a => opv rfl rfl (by simp [go_sem, a.e 27 (d 8 rfl)]) rfl,
  fun f s W c d j k l a => by have m := below_trans fB13 c; have E_ := (hP.below m).2 pa2 hpa2; rw [epa2] at E_; obtain ⟨u0_, u1_, u2_, u3_, u4_, u5_, u6_, u7_⟩ := E_; have v0_ : W.cell? ⟨bp, oP + pa2 * 8 + 2, none⟩ = some (.int .i64 PA2.t1) := u2_; have v1_ : W.cell? ⟨bp, oP + pa2 * 8 + 2 + 1, none⟩ = some (.int .i64 PA2.t2) := u3_; exact opv rfl rfl (by simp [go_sem, a.e 28 (d 9 rfl), v0_, v1_]) rfl,
  fun f s W c d j k l a => opv rfl rfl (by simp [go_sem, a.e 2 k13_2]) rfl,
  fun f s W c d j k l a => opv rfl rfl (by simp [go_sem, a.e 8 k13_8]) rfl,
  fun f s W c d j k l a => by have m := below_trans fB13 c; exact opDo_call rfl rfl (by simp [go_sem, a.e 30 (d 11 rfl), a.e 31 (d 12 rfl)]) (pubByte_any ta tn tc bs 2 W (hT.below m) (by decide)) ((fun e W' h => by have h1 := h.1; rw [hy2] at h1; exact ⟨_, h1, h.2, rfl⟩)),
  fun f s W c d j k l a => opc rfl rfl (by simp [go_sem, a.e 29 (d 10 rfl), a.e 32 (d 13 rfl)]) (pubIn_any (PA2.t1) (PA2.t2) (yy 2) (qq 2) W (by omega) gm2 hq2 (by omega)),
  fun f s W c d j k l a => opv rfl rfl (by simp [go_sem, a.e 19 (d 0 rfl), a.e 33 (d 14 rfl), IntWalk.i64_in (((PA0.t1 + (qq 0)) + (FA0.h1 + (qq 1))) + (PA2.t1 + (qq 2))) (by omega)]) rfl,
  fun f s W c d j k l a => opv rfl rfl (by simp [go_sem, a.e 34 (d 15 rfl)]) rfl, trivial⟩ ?_
 intro f14 s14 W14 hB14 g14 hg14
 have fB14 := hB14.f fB13
 have z14 := hB14.below.size
 have b14_0 := hB14.b b13_0
 have b14_1 := hB14.b b13_1
 refine wpOps_end ?_
 have k14_2 := kt hg14 2 k13_2
 have k14_3 := kt hg14 3 k13_3
 have k14_4 := kt hg14 4 k13_4
 have k14_6 := kt hg14 6 k13_6
 have k14_8 := kt hg14 8 k13_8
 have k14_13 := kt hg14 13 k13_13
 have k14_18 := kt hg14 18 k13_18
 have k14_7 := kt hg14 7 (hB14.is 16)
 refine inBlock_normal ?_
 refine hK20 _ _ ?_
 refine region_dk 3 [(14, 0), (15, 1), (8, 2)] [[], [0], [0, 1]] (rel [is (.int .i64 2),
   is (.int .i64 3),
   is (.int .i64 3)])
  ⟨is_k, is_k, is_k, trivial⟩
  ⟨fun f s W c d j k l a => opv rfl rfl (by simp [go_sem, a.e 8 ((k 2 8 rfl rfl).trans k14_8)]) rfl,
  fun f s W c d j k l a => opv rfl rfl (by simp [go_sem, a.e 14 (d 0 rfl), IntWalk.i64_in (3) (by omega)]) rfl,
  fun f s W c d j k l a => opv rfl rfl (by simp [go_sem, a.e 15 (d 1 rfl)]) rfl, trivial⟩ ?_
 intro f15 s15 W15 hB15 g15 hg15
 have fB15 := hB15.f fB14
 have z15 := hB15.below.size
 have b15_0 := hB15.b b14_0
 have b15_1 := hB15.b b14_1
 refine wpOps_end ?_
 have k15_2 := kt hg15 2 k14_2
 have k15_3 := kt hg15 3 k14_3
 have k15_4 := kt hg15 4 k14_4
 have k15_6 := kt hg15 6 k14_6
 have k15_13 := kt hg15 13 k14_13
 have k15_18 := kt hg15 18 k14_18
 have k15_7 := kt hg15 7 k14_7
 have k15_8 := kt hg15 8 (hB15.is 2)
 refine then_normal ?_
 rw [rounds_succ]
 refine wp_seq_k fun K23 hK23 => ?_
 refine wp_seq_k fun K24 hK24 => ?_
 refine region_dk 5 [(9, 0), (10, 1), (11, 2), (12, 3), (13, 4)] [[], [], [1], [1, 2], [0, 1, 2, 3]] (rel [is (.int .i64 3),
   is (.pointer (some ⟨(s1 1), 0, none⟩)),
   is (.slice (some ⟨tx, ux, none⟩) (3) (cx)),
   is (.int .i64 3),
   is (.bool false)])
  ⟨is_k, is_k, is_k, is_k, is_k, trivial⟩
  ⟨fun f s W c d j k l a => opv rfl rfl (by simp [go_sem, a.e 8 k15_8]) rfl,
  fun f s W c d j k l a => opv rfl rfl (by simp [go_sem, a.e 4 k15_4]) rfl,
  fun f s W c d j k l a => opv rfl rfl (by simp [go_sem, a.e 10 (d 1 rfl), cb b15_1 c 0]) rfl,
  fun f s W c d j k l a => opv rfl rfl (by simp [go_sem, a.e 11 (d 2 rfl)]) rfl,
  fun f s W c d j k l a => opv rfl rfl (by simp [go_sem, a.e 9 (d 0 rfl), a.e 12 (d 3 rfl)]) rfl, trivial⟩ ?_
 intro f16 s16 W16 hB16 g16 hg16
 have fB16 := hB16.f fB15
 have z16 := hB16.below.size
 have b16_0 := hB16.b b15_0
 have b16_1 := hB16.b b15_1
 refine hK24 _ _ ?_
 have k16_2 := kt hg16 2 k15_2
 have k16_3 := kt hg16 3 k15_3
 have k16_4 := kt hg16 4 k15_4
 have k16_6 := kt hg16 6 k15_6
 have k16_18 := kt hg16 18 k15_18
 have k16_7 := kt hg16 7 k15_7
 have k16_8 := kt hg16 8 k15_8
 have k16_13 := kt hg16 13 (hB16.is 4)
 refine wp_cond_false ((fr_eval rfl).trans k16_13) ?_
 refine wp_exit ?_
 refine then_exit ?_
 refine then_exit ?_
 refine inBlock_at ?_
 refine hK3 _ _ ?_
 refine wp_seq_k fun K26 hK26 => ?_
 refine region_dk 2 [(52, 0), (6, 1)] [[], [0]] (rel [is (.int .i64 (((PA0.t1 + (qq 0)) + (FA0.h1 + (qq 1))) + (PA2.t1 + (qq 2)))),
   is (.int .i64 (((PA0.t1 + (qq 0)) + (FA0.h1 + (qq 1))) + (PA2.t1 + (qq 2))))])
  ⟨is_k, is_k, trivial⟩
  ⟨fun f s W c d j k l a => opv rfl rfl (by simp [go_sem, a.e 7 k16_7]) rfl,
  fun f s W c d j k l a => opv rfl rfl (by simp [go_sem, a.e 52 (d 0 rfl)]) rfl, trivial⟩ ?_
 intro f17 s17 W17 hB17 g17 hg17
 have fB17 := hB17.f fB16
 have z17 := hB17.below.size
 have b17_0 := hB17.b b16_0
 have b17_1 := hB17.b b16_1
 refine hK26 _ _ ?_
 have k17_6 := kt hg17 6 (hB17.is 1)
 refine wp_ret ?_
 refine leave_one (N := 53) (v := .int .i64 (((PA0.t1 + (qq 0)) + (FA0.h1 + (qq 1))) + (PA2.t1 + (qq 2)))) (.inr rfl) Try.results14 rfl k17_6 ?_
 exact ⟨rfl, fB17⟩
end Go.Proofs.Ytiocklgakklkpaa
