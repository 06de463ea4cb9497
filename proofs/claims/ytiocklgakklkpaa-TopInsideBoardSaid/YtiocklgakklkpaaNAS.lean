/- Part of the proof: what the claim leans on. -/
import Derived.Test.YtiocklgakklkpaaNAR
import Derived.Test.YtiocklgakklkpaaNAH
import Derived.Test.YtiocklgakklkpaaNAI
set_option linter.unusedSimpArgs false
set_option linter.unusedVariables false
namespace Go.Proofs.Ytiocklgakklkpaa
open Go.RowKit
/-- Bytes that lie one behind another. -/
def ByR (W : World) (b o n : Nat) (bs : Nat → Int) : Prop := b < W.heap.size ∧ ∀ i, i < n → W.cell? ⟨b, o + i, none⟩ = some (.int .u8 (bs i))
theorem ByR.below {W W' : World} {b o n : Nat} {bs : Nat → Int} (h : ByR W b o n bs) (hb : Below W.heap.size W W') : ByR W' b o n bs :=
  ⟨Nat.lt_of_lt_of_le h.1 hb.size, fun i hi => (hb.cell (p := ⟨b, o + i, none⟩) h.1).trans (h.2 i hi)⟩
set_option maxRecDepth 100000 in
set_option maxHeartbeats 400000 in
theorem pubByte_nil (a : Option Addr) (c : Nat) (kq : Int) (w : World) :
  Calls Try.prog 27 #[.slice (a) (0) (c), .int .i64 kq] w (fun e w' => e = .returned (.int .i64 0) ∧ Below w.heap.size w w') := by
 refine calls_fr Try.func27 Try.ntmps27 rfl rfl fun g hg => ?_
 have k0 : g 0 = .slice (a) (0) (c) := hg 0
 have k1 : g 1 = .int .i64 kq := hg 1
 clear hg
 have fB0 : Below w.heap.size w w := Below.refl _ _
 refine wp_seq_k fun K1 hK1 => ?_
 refine region_dk 1 [(4, 0)] [[]] (rel [is (.int .i64 0)])
  ⟨is_k, trivial⟩
  ⟨fun f s W d h i j k b => opv rfl rfl (by simp [go_sem]) rfl, trivial⟩ ?_
 intro f1 s1 W1 hB1 g1 hg1
 have fB1 := hB1.f fB0
 have z1 := hB1.below.size
 refine hK1 _ _ ?_
 have k1_0 := kt hg1 0 k0
 have k1_1 := kt hg1 1 k1
 have k1_4 := kt hg1 4 (hB1.is 0)
 refine wp_seq_k fun K2 hK2 => ?_
 refine wp_seq_k fun K3 hK3 => ?_
 refine region_dk 3 [(5, 0), (6, 1), (7, 2)] [[], [0], [0, 1]] (rel [is (.slice (a) (0) (c)),
   is (.int .i64 0),
   is (.bool true)])
  ⟨is_k, is_k, is_k, trivial⟩
  ⟨fun f s W d h i j k b => opv rfl rfl (by simp [go_sem, b.e 0 k1_0]) rfl,
  fun f s W d h i j k b => opv rfl rfl (by simp [go_sem, b.e 5 (h 0 rfl)]) rfl,
  fun f s W d h i j k b => opv rfl rfl (by simp [go_sem, b.e 6 (h 1 rfl)]) rfl, trivial⟩ ?_
 intro f2 s2 W2 hB2 g2 hg2
 have fB2 := hB2.f fB1
 have z2 := hB2.below.size
 refine hK3 _ _ ?_
 have k2_0 := kt hg2 0 k1_0
 have k2_1 := kt hg2 1 k1_1
 have k2_4 := kt hg2 4 k1_4
 have k2_7 := kt hg2 7 (hB2.is 2)
 refine wp_cond_true ((fr_eval rfl).trans k2_7) ?_
 refine wp_seq_k fun K5 hK5 => ?_
 refine region_dk 1 [(4, 0)] [[]] (rel [is (.int .i64 0)])
  ⟨is_k, trivial⟩
  ⟨fun f s W d h i j k b => opv rfl rfl (by simp [go_sem]) rfl, trivial⟩ ?_
 intro f3 s3 W3 hB3 g3 hg3
 have fB3 := hB3.f fB2
 have z3 := hB3.below.size
 refine hK5 _ _ ?_
 have k3_0 := kt hg3 0 k2_0
 have k3_1 := kt hg3 1 k2_1
 have k3_4 := kt hg3 4 (hB3.is 0)
 refine wp_ret ?_
 refine then_ret ?_
 refine leave_one (N := 16) (v := .int .i64 0) (.inr rfl) Try.results27 rfl k3_4 ?_
 exact ⟨rfl, fB3⟩
set_option maxRecDepth 100000 in
set_option maxHeartbeats 400000 in
theorem pubByte_at (bs : Nat → Int) (bb oo nn cc : Nat) (kq : Int) (qm : Nat) (w : World) (hR : ByR w bb oo nn bs) (gk : 0 ≤ kq ∧ kq ≤ 1000) (gn : 1 ≤ nn ∧ nn ≤ 9223372036854775807) (hqm : kq % (nn : Int) = (qm : Int)) (gbs : 0 ≤ bs qm ∧ bs qm ≤ 255) :
  Calls Try.prog 27 #[.slice (some ⟨bb, oo, none⟩) (nn) (cc), .int .i64 kq] w (fun e w' => e = .returned (.int .i64 (bs qm)) ∧ Below w.heap.size w w') := by
 have hn0 : ((nn : Int) == 0) = false := beq_eq_false_iff_ne.2 (by omega)
 have hlt_ : kq % (nn : Int) < (nn : Int) := Int.emod_lt_of_pos _ (by omega)
 have ln : qm < nn := by omega
 have lz : (qm : Int) < (nn : Int) := by omega
 have li := Nat.not_le.2 ln
 refine calls_fr Try.func27 Try.ntmps27 rfl rfl fun g hg => ?_
 have k0 : g 0 = .slice (some ⟨bb, oo, none⟩) (nn) (cc) := hg 0
 have k1 : g 1 = .int .i64 kq := hg 1
 clear hg
 have fB0 : Below w.heap.size w w := Below.refl _ _
 refine wp_seq_k fun K1 hK1 => ?_
 refine region_dk 1 [(4, 0)] [[]] (rel [is (.int .i64 0)])
  ⟨is_k, trivial⟩
  ⟨fun f s W b c d h i a => opv rfl rfl (by simp [go_sem]) rfl, trivial⟩ ?_
 intro f1 s1 W1 hB1 g1 hg1
 have fB1 := hB1.f fB0
 have z1 := hB1.below.size
 refine hK1 _ _ ?_
 have k1_0 := kt hg1 0 k0
 have k1_1 := kt hg1 1 k1
 have k1_4 := kt hg1 4 (hB1.is 0)
 refine wp_seq_k fun K2 hK2 => ?_
 refine wp_seq_k fun K3 hK3 => ?_
 refine region_dk 3 [(5, 0), (6, 1), (7, 2)] [[], [0], [0, 1]] (rel [is (.slice (some ⟨bb, oo, none⟩) (nn) (cc)),
   is (.int .i64 ((nn : Int))),
   is (.bool ((nn : Int) == 0))])
  ⟨is_k, is_k, is_k, trivial⟩
  ⟨fun f s W b c d h i a => opv rfl rfl (by simp [go_sem, a.e 0 k1_0]) rfl,
  fun f s W b c d h i a => opv rfl rfl (by simp [go_sem, a.e 5 (c 0 rfl)]) rfl,
  fun f s W b c d h i a => opv rfl rfl (by simp [go_sem, a.e 6 (c 1 rfl)]) rfl, trivial⟩ ?_
 intro f2 s2 W2 hB2 g2 hg2
 have fB2 := hB2.f fB1
 have z2 := hB2.below.size
 refine hK3 _ _ ?_
 have k2_0 := kt hg2 0 k1_0
 have k2_1 := kt hg2 1 k1_1
 have k2_4 := kt hg2 4 k1_4
 have k2_7 := kt hg2 7 (hB2.is 2)
 have hc4 : (fr 16 g2).eval (.tmp 7) = .bool false := ((fr_eval rfl).trans k2_7).trans (by rw [hn0])
 refine wp_cond_false (hc4) ?_
 refine wp_skip ?_
 refine hK2 _ _ ?_
 refine wp_seq_k fun K5 hK5 => ?_
 refine region_dk 9 [(8, 0), (9, 1), (10, 2), (11, 3), (12, 4), (13, 5), (14, 6), (15, 7), (4, 8)] [[], [], [], [2], [1, 2, 3], [0, 1, 2, 3, 4], [0, 1, 2, 3, 4, 5], [0, 1, 2, 3, 4, 5, 6], [0, 1, 2, 3, 4, 5, 6, 7]] (rel [is (.slice (some ⟨bb, oo, none⟩) (nn) (cc)),
   is (.int .i64 kq),
   is (.slice (some ⟨bb, oo, none⟩) (nn) (cc)),
   is (.int .i64 ((nn : Int))),
   is (.int .i64 ((qm : Int))),
   is (.pointer (some ⟨bb, oo + qm, none⟩)),
   is (.int .u8 ((bs qm))),
   is (.int .i64 ((bs qm))),
   is (.int .i64 ((bs qm)))])
  ⟨is_k, is_k, is_k, is_k, is_k, is_k, is_k, is_k, is_k, trivial⟩
  ⟨fun f s W b c d h i a => opv rfl rfl (by simp [go_sem, a.e 0 k2_0]) rfl,
  fun f s W b c d h i a => opv rfl rfl (by simp [go_sem, a.e 1 k2_1]) rfl,
  fun f s W b c d h i a => opv rfl rfl (by simp [go_sem, a.e 0 k2_0]) rfl,
  fun f s W b c d h i a => opv rfl rfl (by simp [go_sem, a.e 10 (c 2 rfl)]) rfl,
  fun f s W b c d h i a => by have qu_ : (kq).tmod (nn : Int) = (qm : Int) := (Int.tmod_eq_emod_of_nonneg (by omega)).trans hqm; have qw_ := IntWalk.i64_in (qm : Int) (by omega); have qz_ : ¬ (nn : Int) = 0 := (by omega); have qn_ : ¬ nn = 0 := (by omega); exact opv rfl rfl (by simp [go_sem, a.e 9 (c 1 rfl), a.e 11 (c 3 rfl), qu_, qw_, qz_, qn_]) rfl,
  fun f s W b c d h i a => opv rfl rfl (by simp [go_sem, a.e 8 (c 0 rfl), a.e 12 (c 4 rfl), li, ln, lz]) rfl,
  fun f s W b c d h i a => by have j := below_trans fB2 b; have cu := (hR.below j).2 qm ln; exact opv rfl rfl (by simp [go_sem, a.e 13 (c 5 rfl), cu]) rfl,
  fun f s W b c d h i a => by have cv_ := IntWalk.i64_in (bs qm) (by omega); exact opv rfl rfl (by simp [go_sem, a.e 14 (c 6 rfl), cv_]) rfl,
  fun f s W b c d h i a => opv rfl rfl (by simp [go_sem, a.e 15 (c 7 rfl)]) rfl, trivial⟩ ?_
 intro f3 s3 W3 hB3 g3 hg3
 have fB3 := hB3.f fB2
 have z3 := hB3.below.size
 refine hK5 _ _ ?_
 have k3_4 := kt hg3 4 (hB3.is 8)
 refine wp_ret ?_
 refine leave_one (N := 16) (v := .int .i64 ((bs qm))) (.inr rfl) Try.results27 rfl k3_4 ?_
 exact ⟨rfl, fB3⟩
end Go.Proofs.Ytiocklgakklkpaa
namespace Go.Proofs.Ytiocklgakklkpaa
open Go.RowKit
set_option maxRecDepth 100000 in
set_option maxHeartbeats 400000 in
theorem pubInts_any (a : Option Addr) (c : Nat) (xs : List Int) (w : World) (h : Ii w a xs.length c xs) (hn : xs.length ≤ 1000) :
  Calls Try.prog 17 #[.slice (a) (xs.length) (c)] w (fun e w' => ∃ v, e = .returned v ∧ NwIi w.heap.size xs v w' ∧ Below w.heap.size w w') := by
 refine calls_fr Try.func17 Try.ntmps17 rfl rfl fun g hg => ?_
 have k0 : g 0 = .slice (a) (xs.length) (c) := hg 0
 clear hg
 have fB0 : Below w.heap.size w w := Below.refl _ _
 refine wp_seq_k fun K1 hK1 => ?_
 refine region_dk 1 [(2, 0)] [[]] (rel [is (.slice (none) (0) (0))])
  ⟨is_k, trivial⟩
  ⟨fun f s W d i j k l b => opv rfl rfl (by simp [go_sem]) rfl, trivial⟩ ?_
 intro f1 s1 W1 hB1 g1 hg1
 have fB1 := hB1.f fB0
 have z1 := hB1.below.size
 refine hK1 _ _ ?_
 have k1_0 := kt hg1 0 k0
 have k1_2 := kt hg1 2 (hB1.is 0)
 refine wp_seq_k fun K2 hK2 => ?_
 refine region_dk 4 [(3, 0), (4, 1), (5, 2), (2, 3)] [[], [], [0, 1], [0, 1, 2]] (rel [row 0 0 #[] 3,
   is (.slice (a) (xs.length) (c)),
   ab fun v W => NwIi W1.heap.size (xs) v W,
   ab fun v W => NwIi W1.heap.size (xs) v W])
  ⟨row_k, is_k, ab_k fun v W W' hb h => h.below hb, ab_k fun v W W' hb h => h.below hb, trivial⟩
  ⟨fun f s W d i j k l b => opr rfl rfl (by simp [go_sem]),
  fun f s W d i j k l b => opv rfl rfl (by simp [go_sem, b.e 0 k1_0]) rfl,
  fun f s W d i j k l b => by have m := below_trans fB1 d; obtain ⟨v_, W_, r_, b_, i_⟩ := clone_run 35 W (s 0) (a) (c) (xs) ((h.below m (Nat.le_refl _))) (hn) (i 0 rfl).2 W1.heap.size (j 0 rfl) d.size; exact opDo_value rfl rfl (run_appendOp (b.v 3 (i 0 rfl).1) (b.v 4 (i 1 rfl)) r_) b_ i_,
  fun f s W d i j k l b => opv (v := (f 2)) rfl rfl (by simp [go_sem, (b.at' 5 rfl : l.tmps[5]?.getD undef = f 2)] <;> rfl) (i 2 rfl), trivial⟩ ?_
 intro f2 s2 W2 hB2 g2 hg2
 have fB2 := hB2.f fB1
 have z2 := hB2.below.size
 obtain ⟨r2_0, br2_0⟩ := hB2.is 0
 have lr2_0 := hB2.lr 0 br2_0
 obtain ⟨g21', c22', r2_3, q23', q25', q24'⟩ := hB2.is 3
 refine hK2 _ _ ?_
 have k2_2 := kt hg2 2 r2_3
 refine wp_ret ?_
 refine leave_one (N := 6) (v := .slice (some ⟨g21', 0, none⟩) ((xs).length) (c22')) (.inr rfl) Try.results17 rfl k2_2 ?_
 exact ⟨_, rfl, ⟨_, _, rfl, q23', (by omega), q24'⟩, fB2⟩
/-- A board whose lists are one's own. -/
def BoO (B n m : Nat) (xs ys : List Int) (v : Value) (W : World) : Prop := ∃ g1 c1 g2 c2, v = .agg #[.slice (some ⟨g1, 0, none⟩) n c1, .slice (some ⟨g2, 0, none⟩) m c2] ∧ OwnI B xs g1 c1 W ∧ OwnI B ys g2 c2 W
theorem BoO.below {B n m : Nat} {xs ys : List Int} {v : Value} {W W' : World} (h : BoO B n m xs ys v W) (hb : Below W.heap.size W W') : BoO B n m xs ys v W' := by
  obtain ⟨g1, c1, g2, c2, e, h1, h2⟩ := h
  exact ⟨g1, c1, g2, c2, e, h1.below hb, h2.below hb⟩
def BoOP (n m : Nat) (xs ys : List Int) (w : World) (e : Ending) (w' : World) : Prop := ∃ v, e = .returned v ∧ BoO w.heap.size n m xs ys v w' ∧ Below w.heap.size w w'
set_option maxRecDepth 100000 in
set_option maxHeartbeats 400000 in
theorem pubSingle_any (w : World) :
  Calls Try.prog 10 #[] w (BoOP 3 1 [0, 1, 2] [0] w) := by
 refine calls_fr Try.func10 Try.ntmps10 rfl rfl fun g hg => ?_
 clear hg
 have fB0 : Below w.heap.size w w := Below.refl _ _
 refine wp_seq_k fun K1 hK1 => ?_
 refine region_dk 1 [(0, 0)] [[]] (rel [bx 0 #[.slice (none) (0) (0), .slice (none) (0) (0)] 46])
  ⟨bx_k, trivial⟩
  ⟨fun f s W c d h i j a => opb rfl rfl (by simp [go_sem]), trivial⟩ ?_
 intro f1 s1 W1 hB1 g1 hg1
 have fB1 := hB1.f fB0
 have z1 := hB1.below.size
 obtain ⟨r1_0, br1_0⟩ := hB1.is 0
 have lr1_0 := hB1.lr 0 br1_0
 refine hK1 _ _ ?_
 have k1_0 := kt hg1 0 r1_0
 refine wp_seq_k fun K2 hK2 => ?_
 refine region_dk 3 [(1, 0), (2, 1), (3, 2)] [[], [], [0, 1], [0, 1, 2]] (rel [row 0 3 #[.int .i64 0, .int .i64 1, .int .i64 2] 3,
   row 1 1 #[.int .i64 0] 3,
   isS fun s => .agg #[.slice (some ⟨(s 0), 0, none⟩) (3) (3), .slice (some ⟨(s 1), 0, none⟩) (1) (1)]])
  ⟨row_k, row_k, isS_k fun s s' e => by rw [e 0 (by simp), e 1 (by simp)], trivial⟩
  ⟨fun f s W c d h i j a => opr rfl rfl (by simp [go_sem]),
  fun f s W c d h i j a => opr rfl rfl (by simp [go_sem]),
  fun f s W c d h i j a => opv rfl rfl (by simp [go_sem, a.e 1 (d 0 rfl).1, a.e 2 (d 1 rfl).1, upd]) rfl, trivial⟩ ?_
 intro f2 s2 W2 hB2 g2 hg2
 have fB2 := hB2.f fB1
 have z2 := hB2.below.size
 have b2_0 := hB2.b br1_0
 obtain ⟨r2_0, br2_0⟩ := hB2.is 0
 have lr2_0 := hB2.lr 0 br2_0
 obtain ⟨r2_1, br2_1⟩ := hB2.is 1
 have lr2_1 := hB2.lr 1 br2_1
 have ne2_0_1 := hB2.nb 0 1
 have k2_0 := kt hg2 0 k1_0
 have k2_3 := kt hg2 3 (hB2.is 2)
 obtain ⟨W3, hW3⟩ : ∃ W', W' = W2.setRow (s1 0) #[.slice (some ⟨(s2 0), 0, none⟩) (3) (3), .slice (some ⟨(s2 1), 0, none⟩) (1) (1)] := ⟨_, rfl⟩
 refine tail_skip (o := _) rfl ⟨rfl, rfl⟩ (run_seg hW3 (fr_ev k2_0) (fr_ev k2_3) b2_0 rfl rfl rfl rfl) ?_
 obtain ⟨fB3, nb3, ot3, z3⟩ := seg_facts hW3 fB2 b2_0 (by omega)
 clear hW3
 have b3_1 := ot3 _ _ (by omega) br2_0
 have b3_2 := ot3 _ _ (by omega) br2_1
 refine wpOps_end ?_
 refine hK2 _ _ ?_
 refine wp_ret ?_
 refine leave_gen (v := .agg #[.slice (some ⟨(s2 0), 0, none⟩) (3) (3), .slice (some ⟨(s2 1), 0, none⟩) (1) (1)]) (.inr rfl) (by simp [results, Try.results10, go_sem, frv 4 k2_0, cl nb3 0, cl nb3 1]) ?_
 exact ⟨_, rfl, ⟨_, _, _, _, rfl, ownI_lit (xs := [0, 1, 2]) b3_1 (by omega) rfl rfl, ownI_lit (xs := [0]) b3_2 (by omega) rfl rfl⟩, fB3⟩
set_option maxRecDepth 100000 in
set_option maxHeartbeats 400000 in
theorem pubInts_own (a : Option Addr) (c nn : Nat) (xs : List Int) (w : World) (h : Ii w a nn c xs) (hn : nn ≤ 1000) (h0 : 0 < nn) :
  Calls Try.prog 17 #[.slice (a) (nn) (c)] w (OwIP xs nn w) := by
 refine calls_fr Try.func17 Try.ntmps17 rfl rfl fun g hg => ?_
 have k0 : g 0 = .slice (a) (nn) (c) := hg 0
 clear hg
 have fB0 : Below w.heap.size w w := Below.refl _ _
 refine wp_seq_k fun K1 hK1 => ?_
 refine region_dk 1 [(2, 0)] [[]] (rel [is (.slice (none) (0) (0))])
  ⟨is_k, trivial⟩
  ⟨fun f s W d i j l m b => opv rfl rfl (by simp [go_sem]) rfl, trivial⟩ ?_
 intro f1 s1 W1 hB1 g1 hg1
 have fB1 := hB1.f fB0
 have z1 := hB1.below.size
 refine hK1 _ _ ?_
 have k1_0 := kt hg1 0 k0
 have k1_2 := kt hg1 2 (hB1.is 0)
 refine wp_seq_k fun K2 hK2 => ?_
 refine region_dk 4 [(3, 0), (4, 1), (5, 2), (2, 3)] [[], [], [0, 1], [0, 1, 2]] (rel [row 0 0 #[] 3,
   is (.slice (a) (nn) (c)),
   fun v s W => OwI (s 2) (xs) nn v W,
   fun v s W => OwI (s 2) (xs) nn v W])
  ⟨row_k, is_k, ⟨fun v k W W' hb h => h.below hb, fun v s s' W e h => by have h' : OwI (s 2) (xs) nn v W := h; show OwI (s' 2) (xs) nn v W; rw [← e 2 (by simp)]; exact h'⟩, ⟨fun v k W W' hb h => h.below hb, fun v s s' W e h => by have h' : OwI (s 2) (xs) nn v W := h; show OwI (s' 2) (xs) nn v W; rw [← e 2 (by simp)]; exact h'⟩, trivial⟩
  ⟨fun f s W d i j l m b => opr rfl rfl (by simp [go_sem]),
  fun f s W d i j l m b => opv rfl rfl (by simp [go_sem, b.e 0 k1_0]) rfl,
  fun f s W d i j l m b => by have n := below_trans fB1 d; obtain ⟨v_, W_, r_, b_, i_⟩ := cloneO_run 35 W (s 0) (a) (c) (xs) nn ((h.below n (Nat.le_refl _))) (hn) (h0) (i 0 rfl).2; exact opDo_value rfl rfl (run_appendOp (b.v 3 (i 0 rfl).1) (b.v 4 (i 1 rfl)) r_) b_ (show OwI (upd s 2 W.heap.size 2) (xs) nn v_ W_ from by rw [upd_at]; exact i_),
  fun f s W d i j l m b => opv (v := (f 2)) rfl rfl (by simp [go_sem, (b.at' 5 rfl : m.tmps[5]?.getD undef = f 2)] <;> rfl) (i 2 rfl), trivial⟩ ?_
 intro f2 s2 W2 hB2 g2 hg2
 have fB2 := hB2.f fB1
 have z2 := hB2.below.size
 obtain ⟨r2_0, br2_0⟩ := hB2.is 0
 have lr2_0 := hB2.lr 0 br2_0
 obtain ⟨g53', c54', r2_3, q55'⟩ := hB2.is 3
 have la2_3 := hB2.from' 2 (by decide)
 have lo2_3_o := q55'.lim
 have q56' := q55'.low (B' := w.heap.size) (Nat.le_trans fB1.size (la2_3))
 refine hK2 _ _ ?_
 have k2_2 := kt hg2 2 r2_3
 refine wp_ret ?_
 refine leave_one (N := 6) (v := .slice (some ⟨g53', 0, none⟩) (nn) (c54')) (.inr rfl) Try.results17 rfl k2_2 ?_
 exact ⟨_, rfl, ⟨_, _, rfl, q56'⟩, fB2⟩
set_option maxRecDepth 100000 in
set_option maxHeartbeats 4000000 in
theorem pubMade_own (ea eb : Option Addr) (c1 c2 n1 n2 : Nat) (xs ys : List Int) (w : World) (h1 : Ii w ea n1 c1 xs) (h2 : Ii w eb n2 c2 ys) (gna : n1 ≤ 1000) (gnb : n2 ≤ 1000) (gpa : 0 < n1) (gpb : 0 < n2) :
  Calls Try.prog 20 #[.agg #[.slice (ea) (n1) (c1), .slice (eb) (n2) (c2)]] w (fun e w' => ∃ v, e = .returned v ∧ BoO 0 n1 n2 xs ys v w' ∧ Below w.heap.size w w') := by
 refine calls_fr Try.func20 Try.ntmps20 rfl rfl fun g hg => ?_
 have k0 : g 0 = .agg #[.slice (ea) (n1) (c1), .slice (eb) (n2) (c2)] := hg 0
 clear hg
 have fB0 : Below w.heap.size w w := Below.refl _ _
 refine wp_seq_k fun K1 hK1 => ?_
 refine region_dk 2 [(1, 0), (2, 1)] [[], []] (rel [bx 0 #[.slice (ea) (n1) (c1), .slice (eb) (n2) (c2)] 46,
   bx 1 #[.slice (none) (0) (0), .slice (none) (0) (0)] 46])
  ⟨bx_k, bx_k, trivial⟩
  ⟨fun f s W c d i j l a => opb rfl rfl (by simp [go_sem, a.e 0 k0]),
  fun f s W c d i j l a => opb rfl rfl (by simp [go_sem]), trivial⟩ ?_
 intro f1 s1 W1 hB1 g1 hg1
 have fB1 := hB1.f fB0
 have z1 := hB1.below.size
 obtain ⟨r1_0, br1_0⟩ := hB1.is 0
 have lr1_0 := hB1.lr 0 br1_0
 obtain ⟨r1_1, br1_1⟩ := hB1.is 1
 have lr1_1 := hB1.lr 1 br1_1
 have ne1_0_1 := hB1.nb 0 1
 refine hK1 _ _ ?_
 have k1_1 := kt hg1 1 r1_0
 have k1_2 := kt hg1 2 r1_1
 refine wp_seq_k fun K2 hK2 => ?_
 refine region_dk 7 [(3, 0), (4, 1), (5, 2), (6, 3), (7, 4), (8, 5), (9, 6)] [[], [0], [0, 1], [], [3], [0, 1, 2, 3, 4], [0, 1, 2, 3, 4, 5], [0, 1, 2, 3, 4, 5, 6]] (rel [is (.pointer (some ⟨(s1 0), 0, none⟩)),
   is (.slice (ea) (n1) (c1)),
   fun v s W => OwI (s 2) (xs) n1 v W,
   is (.pointer (some ⟨(s1 0), 1, none⟩)),
   is (.slice (eb) (n2) (c2)),
   fun v s W => OwI (s 5) (ys) n2 v W,
   ab fun v W => BoO 0 n1 n2 xs ys v W])
  ⟨is_k, is_k, ⟨fun v k W W' hb h => h.below hb, fun v s s' W e h => by have h' : OwI (s 2) (xs) n1 v W := h; show OwI (s' 2) (xs) n1 v W; rw [← e 2 (by simp)]; exact h'⟩, is_k, is_k, ⟨fun v k W W' hb h => h.below hb, fun v s s' W e h => by have h' : OwI (s 5) (ys) n2 v W := h; show OwI (s' 5) (ys) n2 v W; rw [← e 5 (by simp)]; exact h'⟩, ab_k fun v W W' hb h => h.below hb, trivial⟩
  ⟨fun f s W c d i j l a => opv rfl rfl (by simp [go_sem, a.e 1 k1_1]) rfl,
  fun f s W c d i j l a => opv rfl rfl (by simp [go_sem, a.e 3 (d 0 rfl), cb br1_0 c 0]) rfl,
  fun f s W c d i j l a => by have m := below_trans fB1 c; exact opDo_call rfl rfl (by simp [go_sem, a.e 4 (d 1 rfl)]) (pubInts_own ea c1 n1 xs W (h1.below m (Nat.le_refl _)) gna gpa) (fun e W' h => by obtain ⟨v, e1, h1, h2⟩ := h; exact ⟨v, e1, h2, (show OwI (upd s 2 W.heap.size 2) (xs) n1 v W' from by rw [upd_at]; exact h1)⟩),
  fun f s W c d i j l a => opv rfl rfl (by simp [go_sem, a.e 1 k1_1]) rfl,
  fun f s W c d i j l a => opv rfl rfl (by simp [go_sem, a.e 6 (d 3 rfl), cb br1_0 c 1]) rfl,
  fun f s W c d i j l a => by have m := below_trans fB1 c; exact opDo_call rfl rfl (by simp [go_sem, a.e 7 (d 4 rfl)]) (pubInts_own eb c2 n2 ys W (h2.below m (Nat.le_refl _)) gnb gpb) (fun e W' h => by obtain ⟨v, e1, h1, h2⟩ := h; exact ⟨v, e1, h2, (show OwI (upd s 5 W.heap.size 5) (ys) n2 v W' from by rw [upd_at]; exact h1)⟩),
  fun f s W c d i j l a => by obtain ⟨g57', c58', d2, q59'⟩ := (d 2 rfl); obtain ⟨g60', c61', d5, q62'⟩ := (d 5 rfl); exact opv (v := (.agg #[.slice (some ⟨g57', 0, none⟩) (n1) (c58'), .slice (some ⟨g60', 0, none⟩) (n2) (c61')])) rfl rfl (by simp [go_sem, a.e 5 d2, a.e 8 d5]) ⟨_, _, _, _, rfl, (q59').low (Nat.zero_le _), (q62').low (Nat.zero_le _)⟩, trivial⟩ ?_
 intro f2 s2 W2 hB2 g2 hg2
 have fB2 := hB2.f fB1
 have z2 := hB2.below.size
 have b2_0 := hB2.b br1_0
 have b2_1 := hB2.b br1_1
 obtain ⟨g63', c65', g64', c66', r2_6, q67', q68'⟩ := hB2.is 6
 have k2_2 := kt hg2 2 k1_2
 have k2_9 := kt hg2 9 r2_6
 obtain ⟨W3, hW3⟩ : ∃ W', W' = W2.setRow (s1 1) #[.slice (some ⟨g63', 0, none⟩) (n1) (c65'), .slice (some ⟨g64', 0, none⟩) (n2) (c66')] := ⟨_, rfl⟩
 refine tail_skip (o := _) rfl ⟨rfl, rfl⟩ (run_seg hW3 (fr_ev k2_2) (fr_ev k2_9) b2_1 rfl rfl rfl rfl) ?_
 obtain ⟨fB3, nb3, ot3, z3⟩ := seg_facts hW3 fB2 b2_1 (by omega)
 clear hW3
 have b3_0 := ot3 _ _ (by omega) b2_0
 have q69' := q67'.other ot3 (own_ne q67' b2_1) z3
 have q70' := q68'.other ot3 (own_ne q68' b2_1) z3
 refine wpOps_end ?_
 refine hK2 _ _ ?_
 refine wp_ret ?_
 refine leave_gen (v := .agg #[.slice (some ⟨g63', 0, none⟩) (n1) (c65'), .slice (some ⟨g64', 0, none⟩) (n2) (c66')]) (.inr rfl) (by simp [results, Try.results20, go_sem, frv 10 k2_2, cl nb3 0, cl nb3 1]) ?_
 exact ⟨_, rfl, ⟨_, _, _, _, rfl, q69', q70'⟩, fB3⟩
end Go.Proofs.Ytiocklgakklkpaa
