/- Part of the proof: what the claim leans on. -/
import Derived.Test.YtnhipdbdolabkaaWAP
import Derived.Test.YtnhipdbdolabkaaWAR
import Derived.Test.YtnhipdbdolabkaaWAT
set_option linter.unusedSimpArgs false
set_option linter.unusedVariables false
namespace Go.Proofs.Ytnhipdbdolabkaa
open Go.RowKit
/-- The search, with its best plan so far. -/
def BoxS (p : Tp) (bo oo no co : Nat) (al : Option Addr) (cl : Nat) (L : List (List Int)) (ad : Nat → Option Addr) (cp : Nat → Nat) (bs : Nat) (q : Se) (W : World) : Prop :=
  ∃ a c, W.heap[bs]? = some (.cells #[.int .i64 p.wide, .int .i64 p.tlo, .int .i64 p.thi, .int .i64 p.webs, .slice (some ⟨bo, oo, none⟩) (no) (co), .slice (al) (L.length) (cl), .slice (a) (q.best.length) (c), .int .i64 q.waste, .bool q.found] 120 (0, 0)) ∧ q.best.length ≤ c ∧ RowA W bs a q.best.length (plC L ad cp q.best)
theorem BoxS.below {p : Tp} {bo oo no co : Nat} {al : Option Addr} {cl : Nat} {L : List (List Int)} {ad : Nat → Option Addr} {cp : Nat → Nat} {bs : Nat} {q : Se} {W W' : World} (h : BoxS p bo oo no co al cl L ad cp bs q W) (hb : Below W.heap.size W W') : BoxS p bo oo no co al cl L ad cp bs q W' := by
  obtain ⟨a, c, h1, h2, h3⟩ := h; exact ⟨a, c, blk_below h1 hb, h2, h3.below hb⟩
theorem keepX_row {b : Nat} {cs : Array Value} {W W' : World} (h : W' = W.setRow b cs) : KeepX b W W' := by
  subst h
  refine ⟨rfl, rfl, rfl, ?_, fun k o hk hx => ?_⟩
  · simp [World.setRow]
  · simp only [World.setRow]
    rw [Array.getElem?_modify, if_neg (fun e => hk e.symm)]; exact hx
theorem RowA.ot {W W' : World} {bs n : Nat} {a : Option Addr} {cs : List Value} (h : RowA W bs a n cs) (hot : ∀ k x, k ≠ bs → W.heap[k]? = some x → W'.heap[k]? = some x) (hz : W.heap.size ≤ W'.heap.size) : RowA W' bs a n cs := by
  obtain ⟨h0, h⟩ := h
  refine ⟨h0, h.imp id ?_⟩
  rintro ⟨b, o, e, hne, hlt, hc⟩
  refine ⟨b, o, e, hne, Nat.lt_of_lt_of_le hlt hz, fun j u hj => ?_⟩
  have hb : W.heap[b]? = some W.heap[b] := Array.getElem?_eq_getElem hlt
  rw [← hc j u hj]
  exact World.cell?_of_block ((hot _ _ hne hb).trans hb.symm)
theorem tail_call {P : Program} {ops : Array Oper} {Q : Exit → Act → World → Prop} {i m N d : Nat} {g : Nat → Value} {W : World} {o : Oper} {fn : FuncId} {args : Array Value} {post : Ending → World → Prop} (ho : ops[i]? = some o) (hg : o.guard = none) (hd : o.dst = some d) (hr : (execOp (fr N g).eval o).run P W = .ok (.enter fn args) W)
    (hc : Calls P fn args W post) (h : ∀ v W', post (.returned v) W' → wpOps P ops Q (List.range' (i + 1) m) (fr N (upd g d v)) W') (h1 : ∀ W', ¬ post .outgrown W') (h2 : ∀ c W', ¬ post (.panicked c) W') : wpOps P ops Q (List.range' i (m + 1)) (fr N g) W := by
  rw [List.range'_succ, wpOps_cons]
  unfold wpOp
  simp only [ho, Region.wanted, hg, if_true]
  refine .inl ?_
  unfold Oper.wp
  rw [hr]
  refine Calls.mono hc fun e W' he => ?_
  cases e with
  | returned v =>
    show wpOps _ _ _ _ ((fr N g).put o.dst v) W'
    rw [hd, fr_put]; exact h v W' he
  | panicked c => exact absurd he (h2 c W')
  | outgrown => exact absurd he (h1 W')
/-- What a try does, m set-ups before the end. -/
def TryIt (p : Tp) (os : Nat → To) (bo oo no co : Nat) (al : Option Addr) (cl : Nat) (L : List (List Int)) (ad : Nat → Option Addr) (cp : Nat → Nat) (bs : Nat) (w : World) (m : Nat) : Prop :=
  ∀ (pl : List (Nat × Int)) (fr_ : Nat) (wa : Int) (gs : List Int) (q0 : Se) (ap : Option Addr) (np cp_ : Nat) (ag : Option Addr) (ng cg : Nat) (v1 : World), TryOk no L m pl fr_ wa gs → Below w.heap.size w v1 → BoxS p bo oo no co al cl L ad cp bs q0 v1 → RowA v1 bs ap np (plC L ad cp pl) → np = pl.length → np ≤ cp_ → (np = 0 → ap = none ∧ cp_ = 0) →
    Ii v1 ag ng cg gs → (∀ b o, ag = some ⟨b, o, none⟩ → b ≠ bs) →
    Calls Try.prog 56 #[.pointer (some ⟨bs, 0, none⟩), .slice ap np cp_, .int .i64 (fr_ : Int), .int .i64 (m : Int), .int .i64 wa, .slice ag ng cg] v1 fun e W' => e = .returned (.tuple #[]) ∧ KeepX bs v1 W' ∧ BoxS p bo oo no co al cl L ad cp bs (tryF p os no L m pl fr_ wa gs q0) W'
set_option maxRecDepth 100000 in
set_option maxHeartbeats 8000000 in
theorem try_0 (p : Tp) (os : Nat → To) (bo oo no co : Nat) (al : Option Addr) (cl bl ol : Nat) (L : List (List Int)) (ad : Nat → Option Addr) (cp : Nat → Nat) (bs : Nat) {w : World} (hO : OrdR w bo oo no os) (hp : TpIn p) (ho : ∀ i, i < no → ToIn (os i)) (gno : no ≤ 4) (g1no : 1 ≤ no) (hL : LOk p os no L) (hLL : LLr w bl ol L ad cp) (hal : 0 < L.length → al = some ⟨bl, ol, none⟩) (hbs : w.heap.size ≤ bs) : TryIt p os bo oo no co al cl L ad cp bs w 0 := by
 intro pl fr_ wa gs q0 ap np cp_ ag ng cg v1 hT hB0 hBx hRA hnp hncp hcp0 hG hgne
 obtain ⟨a0, c0, hbx, hbc, hbr⟩ := hBx
 have gng : ng = no := by rw [hG.1, hT.l]
 have lt_bs := lt_of_blk hbx
 have gw_ := hT.w
 have gu_ := hT.u
 have gf_ := hT.fr
 have gLl := hL.len
 have g0_ : (0 : Nat) + pl.length ≤ 3 := gu_
 show Calls _ _ #[_, _, _, .int .i64 (0 : Int), _, _] _ _
 refine calls_fr Try.func56 Try.ntmps56 rfl rfl fun g hg => ?_
 have k0 : g 0 = .pointer (some ⟨bs, 0, none⟩) := hg 0
 have k1 : g 1 = .slice (ap) (np) (cp_) := hg 1
 have k2 : g 2 = .int .i64 ((fr_ : Int)) := hg 2
 have k3 : g 3 = .int .i64 0 := hg 3
 have k4 : g 4 = .int .i64 wa := hg 4
 have k5 : g 5 = .slice (ag) (ng) (cg) := hg 5
 clear hg
 refine wp_seq_k fun K1 hK1 => ?_
 refine wp_seq_k fun K2 hK2 => ?_
 refine region_dk 16 [(16, 0), (17, 1), (18, 2), (19, 3), (20, 4), (21, 5), (22, 6), (23, 7), (24, 8), (25, 9), (26, 10), (27, 11), (28, 12), (29, 13), (30, 14), (31, 15)] [[], [0], [0, 1], [0, 1, 2], [0, 1, 2, 3], [0, 1, 2, 3, 4], [0, 1, 2, 3, 4], [0, 1, 2, 3, 4, 6], [0, 1, 2, 3, 4, 6, 7], [0, 1, 2, 3, 4, 6, 7, 8], [0, 1, 2, 3, 4, 5, 6, 7, 8, 9], [0, 1, 2, 3, 4, 5, 6, 7, 8, 9, 10], [0, 1, 2, 3, 4, 5, 6, 7, 8, 9, 10, 11], [0, 1, 2, 3, 4, 5, 6, 7, 8, 9, 10, 11, 12], [0, 1, 2, 3, 4, 5, 6, 7, 8, 9, 10, 11, 12, 13], [0, 1, 2, 3, 4, 5, 6, 7, 8, 9, 10, 11, 12, 13, 14]] (rel [is (.pointer (some ⟨bs, 0, none⟩)),
   is (.pointer (some ⟨bs, 0, none⟩)),
   is (.pointer (some ⟨bs, 8, none⟩)),
   is (.bool q0.found),
   is (.bool q0.found),
   gd (q0.found) true (is (.int .i64 wa)),
   gd (q0.found) true (is (.pointer (some ⟨bs, 0, none⟩))),
   gd (q0.found) true (is (.pointer (some ⟨bs, 0, none⟩))),
   gd (q0.found) true (is (.pointer (some ⟨bs, 7, none⟩))),
   gd (q0.found) true (is (.int .i64 q0.waste)),
   gd (q0.found) true (is (.bool (decide (q0.waste ≤ wa)))),
   is (.bool ((q0.found) && (decide (q0.waste ≤ wa)))),
   is (.bool ((q0.found) && (decide (q0.waste ≤ wa)))),
   gd ((q0.found) && (decide (q0.waste ≤ wa))) true (is (.int .i64 0)),
   gd ((q0.found) && (decide (q0.waste ≤ wa))) true (is (.bool false)),
   is (.bool false)])
  ⟨is_k, is_k, is_k, is_k, is_k, gd_k (is_k), gd_k (is_k), gd_k (is_k), gd_k (is_k), gd_k (is_k), gd_k (is_k), is_k, is_k, gd_k (is_k), gd_k (is_k), is_k, trivial⟩
  ⟨fun f s W j k m n q a => opv rfl rfl (by simp [go_sem, a.e 0 k0]) rfl,
  fun f s W j k m n q a => opv rfl rfl (by simp [go_sem, a.e 16 (k 0 rfl)]) rfl,
  fun f s W j k m n q a => opv rfl rfl (by simp [go_sem, a.e 17 (k 1 rfl)]) rfl,
  fun f s W j k m n q a => opv rfl rfl (by simp [go_sem, a.e 18 (k 2 rfl), cb hbx j 8]) rfl,
  fun f s W j k m n q a => opv rfl rfl (by simp [go_sem, a.e 19 (k 3 rfl)]) rfl,
  fun f s W j k m n q a => gdo rfl rfl (a.says (d := 20) rfl rfl (k 4 rfl)) fun hgd0 => gv (by simp [go_sem, a.e 4 k4]) rfl,
  fun f s W j k m n q a => gdo rfl rfl (a.says (d := 20) rfl rfl (k 4 rfl)) fun hgd0 => gv (by simp [go_sem, a.e 0 k0]) rfl,
  fun f s W j k m n q a => gdo rfl rfl (a.says (d := 20) rfl rfl (k 4 rfl)) fun hgd0 => gv (by simp [go_sem, a.e 22 ((k 6 rfl).1 hgd0)]) rfl,
  fun f s W j k m n q a => gdo rfl rfl (a.says (d := 20) rfl rfl (k 4 rfl)) fun hgd0 => gv (by simp [go_sem, a.e 23 ((k 7 rfl).1 hgd0)]) rfl,
  fun f s W j k m n q a => gdo rfl rfl (a.says (d := 20) rfl rfl (k 4 rfl)) fun hgd0 => gv (by simp [go_sem, a.e 24 ((k 8 rfl).1 hgd0), cb hbx j 7]) rfl,
  fun f s W j k m n q a => gdo rfl rfl (a.says (d := 20) rfl rfl (k 4 rfl)) fun hgd0 => gv (by simp [go_sem, a.e 21 ((k 5 rfl).1 hgd0), a.e 25 ((k 9 rfl).1 hgd0)]) rfl,
  fun f s W j k m n q a => opk (c := q0.found) rfl rfl (fun hpk => by simp [go_sem, hpk, a.e 20 (k 4 rfl)]) (fun hpk => by simp [go_sem, hpk, a.e 20 (k 4 rfl), a.e 26 ((k 10 rfl).1 hpk)]),
  fun f s W j k m n q a => opv rfl rfl (by simp [go_sem, a.e 27 (k 11 rfl)]) rfl,
  fun f s W j k m n q a => gdo rfl rfl (a.says (d := 28) rfl rfl (k 12 rfl)) fun hgd0 => gv (by simp [go_sem, a.e 3 k3]) rfl,
  fun f s W j k m n q a => gdo rfl rfl (a.says (d := 28) rfl rfl (k 12 rfl)) fun hgd0 => gv (by simp [go_sem, a.e 29 ((k 13 rfl).1 hgd0)]) rfl,
  fun f s W j k m n q a => opk (c := (q0.found) && (decide (q0.waste ≤ wa))) rfl rfl (fun hpk => by first | (simp [go_sem, hpk, a.e 28 (k 12 rfl)]; done) | (have hpk' := hpk; simp at hpk'; simp [go_sem, hpk', hpk, a.e 28 (k 12 rfl)])) (fun hpk => by first | (simp [go_sem, hpk, a.e 28 (k 12 rfl), a.e 30 ((k 14 rfl).1 hpk)]; done) | (have hpk' := hpk; simp at hpk'; simp [go_sem, hpk', hpk, a.e 28 (k 12 rfl), a.e 30 ((k 14 rfl).1 hpk)])), trivial⟩ ?_
 intro f1 s1 W1 hB1 g1 hg1
 have fB1 := hB1.f hB0
 have z1 := hB1.below.size
 have b1_0 := hB1.b hbx
 have q1' := (KeepX.trans (KeepX.refl bs v1) (KeepX.of_below hB1.below))
 have q2' := (hbr.below hB1.below)
 have q3' := (hG.bw hB1)
 have q4' := (hRA.below hB1.below)
 refine hK2 _ _ ?_
 have k1_0 := kt hg1 0 k0
 have k1_1 := kt hg1 1 k1
 have k1_2 := kt hg1 2 k2
 have k1_3 := kt hg1 3 k3
 have k1_4 := kt hg1 4 k4
 have k1_5 := kt hg1 5 k5
 have k1_31 := kt hg1 31 (hB1.is 15)
 refine wp_cond_false ((fr_eval rfl).trans k1_31) ?_
 refine wp_skip ?_
 refine hK1 _ _ ?_
 refine wp_seq_k fun K4 hK4 => ?_
 refine wp_seq_k fun K5 hK5 => ?_
 refine region_dk 2 [(32, 0), (33, 1)] [[], [0]] (rel [is (.int .i64 0),
   is (.bool true)])
  ⟨is_k, is_k, trivial⟩
  ⟨fun f s W j k m n q a => opv rfl rfl (by simp [go_sem, a.e 3 k1_3]) rfl,
  fun f s W j k m n q a => opv rfl rfl (by simp [go_sem, a.e 32 (k 0 rfl)]) rfl, trivial⟩ ?_
 intro f2 s2 W2 hB2 g2 hg2
 have fB2 := hB2.f fB1
 have z2 := hB2.below.size
 have b2_0 := hB2.b b1_0
 have q5' := (KeepX.trans q1' (KeepX.of_below hB2.below))
 have q6' := (q2'.below hB2.below)
 have q7' := (q3'.bw hB2)
 have q8' := (q4'.below hB2.below)
 refine hK5 _ _ ?_
 have k2_0 := kt hg2 0 k1_0
 have k2_1 := kt hg2 1 k1_1
 have k2_2 := kt hg2 2 k1_2
 have k2_3 := kt hg2 3 k1_3
 have k2_4 := kt hg2 4 k1_4
 have k2_5 := kt hg2 5 k1_5
 have k2_33 := kt hg2 33 (hB2.is 1)
 refine wp_cond_true ((fr_eval rfl).trans k2_33) ?_
 refine wp_seq_k fun K7 hK7 => ?_
 refine wp_seq_k fun K8 hK8 => ?_
 refine region_dk 22 [(34, 0), (35, 1), (36, 2), (37, 3), (38, 4), (39, 5), (40, 6), (41, 7), (42, 8), (43, 9), (44, 10), (45, 11), (46, 12), (47, 13), (48, 14), (49, 15), (50, 16), (51, 17), (52, 18), (53, 19), (54, 20), (55, 21)] [[], [0], [0, 1], [0, 1, 2], [], [0, 1, 2, 3, 4], [0, 1, 2, 3, 4, 5], [0, 1, 2, 3, 4, 5, 6], [0, 1, 2, 3, 4, 5, 6, 7], [0, 1, 2, 3, 4, 5, 6, 7, 8], [0, 1, 2, 3, 4, 5, 6, 7, 8, 9], [0, 1, 2, 3, 4, 5, 6, 7, 8, 9, 10], [0, 1, 2, 3, 4, 5, 6, 7, 8, 9, 10, 11], [0, 1, 2, 3, 4, 5, 6, 7, 8, 9, 10, 11, 12], [0, 1, 2, 3, 4, 5, 6, 7, 8, 9, 10, 11, 12, 13], [0, 1, 2, 3, 4, 5, 6, 7, 8, 9, 10, 11, 12, 13], [0, 1, 2, 3, 4, 5, 6, 7, 8, 9, 10, 11, 12, 13, 15], [0, 1, 2, 3, 4, 5, 6, 7, 8, 9, 10, 11, 12, 13, 15, 16], [0, 1, 2, 3, 4, 5, 6, 7, 8, 9, 10, 11, 12, 13, 15, 16, 17], [0, 1, 2, 3, 4, 5, 6, 7, 8, 9, 10, 11, 12, 13, 14, 15, 16, 17, 18], [0, 1, 2, 3, 4, 5, 6, 7, 8, 9, 10, 11, 12, 13, 14, 15, 16, 17, 18, 19], [0, 1, 2, 3, 4, 5, 6, 7, 8, 9, 10, 11, 12, 13, 14, 15, 16, 17, 18, 19, 20]] (rel [is (.pointer (some ⟨bs, 0, none⟩)),
   is (.pointer (some ⟨bs, 0, none⟩)),
   is (.pointer (some ⟨bs, 0, none⟩)),
   is (.agg #[.int .i64 p.wide, .int .i64 p.tlo, .int .i64 p.thi, .int .i64 p.webs, .slice (some ⟨bo, oo, none⟩) (no) (co)]),
   is (.slice (ag) (ng) (cg)),
   is (.int .i64 ((wrF os gs no 0))),
   is (.bool (decide ((wrF os gs no 0) < 0))),
   is (.bool (decide ((wrF os gs no 0) < 0))),
   gd (decide ((wrF os gs no 0) < 0)) true (is (.pointer (some ⟨bs, 0, none⟩))),
   gd (decide ((wrF os gs no 0) < 0)) true (is (.pointer (some ⟨bs, 0, none⟩))),
   gd (decide ((wrF os gs no 0) < 0)) true (is (.pointer (some ⟨bs, 8, none⟩))),
   gd (decide ((wrF os gs no 0) < 0)) true (is (.bool q0.found)),
   gd (decide ((wrF os gs no 0) < 0)) true (is (.bool (!(q0.found)))),
   gd (decide ((wrF os gs no 0) < 0)) true (is (.bool (!(q0.found)))),
   gd (decide ((wrF os gs no 0) < 0)) true (gd (!(q0.found)) false (is (.int .i64 wa))),
   gd (decide ((wrF os gs no 0) < 0)) true (gd (!(q0.found)) false (is (.pointer (some ⟨bs, 0, none⟩)))),
   gd (decide ((wrF os gs no 0) < 0)) true (gd (!(q0.found)) false (is (.pointer (some ⟨bs, 0, none⟩)))),
   gd (decide ((wrF os gs no 0) < 0)) true (gd (!(q0.found)) false (is (.pointer (some ⟨bs, 7, none⟩)))),
   gd (decide ((wrF os gs no 0) < 0)) true (gd (!(q0.found)) false (is (.int .i64 q0.waste))),
   gd (decide ((wrF os gs no 0) < 0)) true (gd (!(q0.found)) false (is (.bool (decide (wa < q0.waste))))),
   gd (decide ((wrF os gs no 0) < 0)) true (is (.bool ((!(q0.found)) || (decide (wa < q0.waste))))),
   is (.bool ((decide ((wrF os gs no 0) < 0)) && ((!(q0.found)) || (decide (wa < q0.waste)))))])
  ⟨is_k, is_k, is_k, is_k, is_k, is_k, is_k, is_k, gd_k (is_k), gd_k (is_k), gd_k (is_k), gd_k (is_k), gd_k (is_k), gd_k (is_k), gd_k (gd_k (is_k)), gd_k (gd_k (is_k)), gd_k (gd_k (is_k)), gd_k (gd_k (is_k)), gd_k (gd_k (is_k)), gd_k (gd_k (is_k)), gd_k (is_k), is_k, trivial⟩
  ⟨fun f s W j k m n q a => opv rfl rfl (by simp [go_sem, a.e 0 k2_0]) rfl,
  fun f s W j k m n q a => opv rfl rfl (by simp [go_sem, a.e 34 (k 0 rfl)]) rfl,
  fun f s W j k m n q a => opv rfl rfl (by simp [go_sem, a.e 35 (k 1 rfl)]) rfl,
  fun f s W j k m n q a => opv rfl rfl (by simp [go_sem, a.e 36 (k 2 rfl), cb b2_0 j 0, cb b2_0 j 1, cb b2_0 j 2, cb b2_0 j 3, cb b2_0 j 4]) rfl,
  fun f s W j k m n q a => opv rfl rfl (by simp [go_sem, a.e 5 k2_5]) rfl,
  fun f s W j k m n q a => by have r := below_trans fB2 j; exact opc rfl rfl (by simp [go_sem, a.e 37 (k 3 rfl), a.e 38 (k 4 rfl)]) (wrong_any p os bo oo no co ag ng cg gs W (hO.below r) gno ((q7'.below j (Nat.le_refl _))) gng),
  fun f s W j k m n q a => opv rfl rfl (by simp [go_sem, a.e 39 (k 5 rfl)]) rfl,
  fun f s W j k m n q a => opv rfl rfl (by simp [go_sem, a.e 40 (k 6 rfl)]) rfl,
  fun f s W j k m n q a => gdo rfl rfl (a.says (d := 41) rfl rfl (k 7 rfl)) fun hgd0 => gv (by simp [go_sem, a.e 0 k2_0]) rfl,
  fun f s W j k m n q a => gdo rfl rfl (a.says (d := 41) rfl rfl (k 7 rfl)) fun hgd0 => gv (by simp [go_sem, a.e 42 ((k 8 rfl).1 hgd0)]) rfl,
  fun f s W j k m n q a => gdo rfl rfl (a.says (d := 41) rfl rfl (k 7 rfl)) fun hgd0 => gv (by simp [go_sem, a.e 43 ((k 9 rfl).1 hgd0)]) rfl,
  fun f s W j k m n q a => gdo rfl rfl (a.says (d := 41) rfl rfl (k 7 rfl)) fun hgd0 => gv (by simp [go_sem, a.e 44 ((k 10 rfl).1 hgd0), cb b2_0 j 8]) rfl,
  fun f s W j k m n q a => gdo rfl rfl (a.says (d := 41) rfl rfl (k 7 rfl)) fun hgd0 => gv (by simp [go_sem, a.e 45 ((k 11 rfl).1 hgd0)]) rfl,
  fun f s W j k m n q a => gdo rfl rfl (a.says (d := 41) rfl rfl (k 7 rfl)) fun hgd0 => gv (by simp [go_sem, a.e 46 ((k 12 rfl).1 hgd0)]) rfl,
  fun f s W j k m n q a => gdo2 rfl rfl a (d := 47) rfl rfl (k 13 rfl) fun hgd0 hgd1 => gv (by simp [go_sem, a.e 4 k2_4]) rfl,
  fun f s W j k m n q a => gdo2 rfl rfl a (d := 47) rfl rfl (k 13 rfl) fun hgd0 hgd1 => gv (by simp [go_sem, a.e 0 k2_0]) rfl,
  fun f s W j k m n q a => gdo2 rfl rfl a (d := 47) rfl rfl (k 13 rfl) fun hgd0 hgd1 => gv (by simp [go_sem, a.e 49 (((k 15 rfl).1 hgd0).1 hgd1)]) rfl,
  fun f s W j k m n q a => gdo2 rfl rfl a (d := 47) rfl rfl (k 13 rfl) fun hgd0 hgd1 => gv (by simp [go_sem, a.e 50 (((k 16 rfl).1 hgd0).1 hgd1)]) rfl,
  fun f s W j k m n q a => gdo2 rfl rfl a (d := 47) rfl rfl (k 13 rfl) fun hgd0 hgd1 => gv (by simp [go_sem, a.e 51 (((k 17 rfl).1 hgd0).1 hgd1), cb b2_0 j 7]) rfl,
  fun f s W j k m n q a => gdo2 rfl rfl a (d := 47) rfl rfl (k 13 rfl) fun hgd0 hgd1 => gv (by simp [go_sem, a.e 48 (((k 14 rfl).1 hgd0).1 hgd1), a.e 52 (((k 18 rfl).1 hgd0).1 hgd1)]) rfl,
  fun f s W j k m n q a => gdo rfl rfl (a.says (d := 41) rfl rfl (k 7 rfl)) fun hgd0 => gk (c := !(q0.found)) (fun hpk => by simp [go_sem, hpk, a.e 47 ((k 13 rfl).1 hgd0), a.e 53 (((k 19 rfl).1 hgd0).1 hpk)]) (fun hpk => by simp [go_sem, hpk, a.e 47 ((k 13 rfl).1 hgd0)]),
  fun f s W j k m n q a => opk (c := decide ((wrF os gs no 0) < 0)) rfl rfl (fun hpk => by first | (simp [go_sem, hpk, a.e 41 (k 7 rfl)]; done) | (have hpk' := hpk; simp at hpk'; simp [go_sem, hpk', hpk, a.e 41 (k 7 rfl)])) (fun hpk => by first | (simp [go_sem, hpk, a.e 41 (k 7 rfl), a.e 54 ((k 20 rfl).1 hpk)]; done) | (have hpk' := hpk; simp at hpk'; simp [go_sem, hpk', hpk, a.e 41 (k 7 rfl), a.e 54 ((k 20 rfl).1 hpk)])), trivial⟩ ?_
 intro f3 s3 W3 hB3 g3 hg3
 have fB3 := hB3.f fB2
 have z3 := hB3.below.size
 have b3_0 := hB3.b b2_0
 have q9' := (KeepX.trans q5' (KeepX.of_below hB3.below))
 have q10' := (q6'.below hB3.below)
 have q11' := (q7'.bw hB3)
 have q12' := (q8'.below hB3.below)
 refine hK8 _ _ ?_
 have k3_0 := kt hg3 0 k2_0
 have k3_1 := kt hg3 1 k2_1
 have k3_2 := kt hg3 2 k2_2
 have k3_3 := kt hg3 3 k2_3
 have k3_4 := kt hg3 4 k2_4
 have k3_5 := kt hg3 5 k2_5
 have k3_55 := kt hg3 55 (hB3.is 21)
 refine wp_cond_split (t := (decide ((wrF os gs no 0) < 0)) && ((!(q0.found)) || (decide (wa < q0.waste)))) ((fr_eval rfl).trans k3_55) (fun hc9 => ?_) (fun hc9 => ?_)
 ·
  have hc9' := hc9; try simp only [ba] at hc9'
  have hc55_ := hc9
  refine region_dk 8 [(56, 0), (57, 1), (58, 2), (59, 3), (60, 4), (61, 5), (62, 6), (63, 7), (64, 9), (65, 10), (66, 12), (67, 13)] [[], [], [], [], [3], [], [0, 3, 4], [0, 3, 4, 6], [0, 3, 4, 6, 7], [0, 1, 3, 4, 5, 6, 7, 8], [0, 1, 3, 4, 5, 6, 7, 8, 9], [0, 1, 3, 4, 5, 6, 7, 8, 9, 10], [0, 1, 2, 3, 4, 5, 6, 7, 8, 9, 10, 11], [0, 1, 2, 3, 4, 5, 6, 7, 8, 9, 10, 11, 12], [0, 1, 2, 3, 4, 5, 6, 7, 8, 9, 10, 11, 12, 13]] (rel [is (.pointer (some ⟨bs, 0, none⟩)),
   is (.pointer (some ⟨bs, 0, none⟩)),
   is (.pointer (some ⟨bs, 0, none⟩)),
   is (.slice (ap) (np) (cp_)),
   ab fun v W => PlC bs (np) (plC L ad cp pl) v W,
   is (.int .i64 wa),
   is (.pointer (some ⟨bs, 0, none⟩)),
   is (.pointer (some ⟨bs, 6, none⟩))])
   ⟨is_k, is_k, is_k, is_k, ab_k fun v W W' hb h => (h.below hb), is_k, is_k, is_k, trivial⟩
   ⟨fun f s W j k m n q a => opv rfl rfl (by simp [go_sem, a.e 0 k3_0]) rfl,
  fun f s W j k m n q a => opv rfl rfl (by simp [go_sem, a.e 0 k3_0]) rfl,
  fun f s W j k m n q a => opv rfl rfl (by simp [go_sem, a.e 0 k3_0]) rfl,
  fun f s W j k m n q a => opv rfl rfl (by simp [go_sem, a.e 1 k3_1]) rfl,
  fun f s W j k m n q a => opDo_call (args := #[.slice (ap) (np) (cp_)]) rfl rfl (by simp [go_sem, a.e 59 (k 3 rfl)]) (cloneS_any bs np cp_ ap (plC L ad cp pl) W ((q12'.below j)) (by omega) (fun e => (hcp0 e).2) (by have := j.size; omega) (fun e => (hcp0 e).1)) ((fun e W' h => by obtain ⟨v, e1, h1, h2⟩ := h; exact ⟨_, e1, h2, h1⟩)),
  fun f s W j k m n q a => opv rfl rfl (by simp [go_sem, a.e 4 k3_4]) rfl,
  fun f s W j k m n q a => opv rfl rfl (by simp [go_sem, a.e 56 (k 0 rfl)]) rfl,
  fun f s W j k m n q a => opv rfl rfl (by simp [go_sem, a.e 62 (k 6 rfl)]) rfl, trivial⟩ ?_
  intro f4 s4 W4 hB4 g4 hg4
  have fB4 := hB4.f fB3
  have z4 := hB4.below.size
  have b4_0 := hB4.b b3_0
  have q13' := (KeepX.trans q9' (KeepX.of_below hB4.below))
  have q14' := (q10'.below hB4.below)
  have q15' := (q11'.bw hB4)
  have q16' := (q12'.below hB4.below)
  obtain ⟨a17', c18', r4_4, q20', q19'⟩ := hB4.is 4
  have k4_0 := kt hg4 0 k3_0
  have k4_1 := kt hg4 1 k3_1
  have k4_2 := kt hg4 2 k3_2
  have k4_3 := kt hg4 3 k3_3
  have k4_4 := kt hg4 4 k3_4
  have k4_5 := kt hg4 5 k3_5
  have k4_57 := kt hg4 57 (hB4.is 1)
  have k4_58 := kt hg4 58 (hB4.is 2)
  have k4_60 := kt hg4 60 r4_4
  have k4_61 := kt hg4 61 (hB4.is 5)
  have k4_63 := kt hg4 63 (hB4.is 7)
  obtain ⟨W5, hW5⟩ : ∃ W', W' = W4.setRow bs #[.int .i64 p.wide, .int .i64 p.tlo, .int .i64 p.thi, .int .i64 p.webs, .slice (some ⟨bo, oo, none⟩) (no) (co), .slice (al) (L.length) (cl), .slice (a17') (np) (c18'), .int .i64 q0.waste, .bool q0.found] := ⟨_, rfl⟩
  refine tail_skip (o := _) rfl ⟨rfl, rfl⟩ (run_seg hW5 (fr_ev k4_63) (fr_ev k4_60) b4_0 rfl rfl rfl rfl) ?_
  obtain ⟨fB5, nb5, ot5, z5⟩ := seg_facts hW5 fB4 b4_0 (by omega)
  have q21' := KeepX.trans q13' (keepX_row hW5)
  clear hW5
  have q22' := RowA.ot q14' ot5 z5
  have q23' := RowA.ot q16' ot5 z5
  have q24' := RowA.ot q19' ot5 z5
  have q25' := q20'
  refine tail_value (o := _) rfl rfl rfl (v := .pointer (some ⟨bs, 0, none⟩)) (by simp [go_sem, frv 134 k4_57]) ?_
  generalize hg6 : upd g4 64 (.pointer (some ⟨bs, 0, none⟩)) = g6
  have k6_0 := ku hg6 0 k4_0
  have k6_1 := ku hg6 1 k4_1
  have k6_2 := ku hg6 2 k4_2
  have k6_3 := ku hg6 3 k4_3
  have k6_4 := ku hg6 4 k4_4
  have k6_5 := ku hg6 5 k4_5
  have k6_58 := ku hg6 58 k4_58
  have k6_61 := ku hg6 61 k4_61
  have k6_64 := kt hg6 64 (upd_same _ _ _)
  refine tail_value (o := _) rfl rfl rfl (v := .pointer (some ⟨bs, 7, none⟩)) (by simp [go_sem, frv 134 k6_64]) ?_
  generalize hg7 : upd g6 65 (.pointer (some ⟨bs, 7, none⟩)) = g7
  have k7_0 := ku hg7 0 k6_0
  have k7_1 := ku hg7 1 k6_1
  have k7_2 := ku hg7 2 k6_2
  have k7_3 := ku hg7 3 k6_3
  have k7_4 := ku hg7 4 k6_4
  have k7_5 := ku hg7 5 k6_5
  have k7_58 := ku hg7 58 k6_58
  have k7_61 := ku hg7 61 k6_61
  have k7_65 := kt hg7 65 (upd_same _ _ _)
  obtain ⟨W8, hW8⟩ : ∃ W', W' = W5.setRow bs #[.int .i64 p.wide, .int .i64 p.tlo, .int .i64 p.thi, .int .i64 p.webs, .slice (some ⟨bo, oo, none⟩) (no) (co), .slice (al) (L.length) (cl), .slice (a17') (np) (c18'), .int .i64 wa, .bool q0.found] := ⟨_, rfl⟩
  refine tail_skip (o := _) rfl ⟨rfl, rfl⟩ (run_seg hW8 (fr_ev k7_65) (fr_ev k7_61) nb5 rfl rfl rfl rfl) ?_
  obtain ⟨fB8, nb8, ot8, z8⟩ := seg_facts hW8 fB5 nb5 (by omega)
  have q26' := KeepX.trans q21' (keepX_row hW8)
  clear hW8
  have q27' := RowA.ot q22' ot8 z8
  have q28' := RowA.ot q23' ot8 z8
  have q29' := RowA.ot q24' ot8 z8
  have q30' := q25'
  refine tail_value (o := _) rfl rfl rfl (v := .pointer (some ⟨bs, 0, none⟩)) (by simp [go_sem, frv 134 k7_58]) ?_
  generalize hg9 : upd g7 66 (.pointer (some ⟨bs, 0, none⟩)) = g9
  have k9_0 := ku hg9 0 k7_0
  have k9_1 := ku hg9 1 k7_1
  have k9_2 := ku hg9 2 k7_2
  have k9_3 := ku hg9 3 k7_3
  have k9_4 := ku hg9 4 k7_4
  have k9_5 := ku hg9 5 k7_5
  have k9_66 := kt hg9 66 (upd_same _ _ _)
  refine tail_value (o := _) rfl rfl rfl (v := .pointer (some ⟨bs, 8, none⟩)) (by simp [go_sem, frv 134 k9_66]) ?_
  generalize hg10 : upd g9 67 (.pointer (some ⟨bs, 8, none⟩)) = g10
  have k10_0 := ku hg10 0 k9_0
  have k10_1 := ku hg10 1 k9_1
  have k10_2 := ku hg10 2 k9_2
  have k10_3 := ku hg10 3 k9_3
  have k10_4 := ku hg10 4 k9_4
  have k10_5 := ku hg10 5 k9_5
  have k10_67 := kt hg10 67 (upd_same _ _ _)
  obtain ⟨W11, hW11⟩ : ∃ W', W' = W8.setRow bs #[.int .i64 p.wide, .int .i64 p.tlo, .int .i64 p.thi, .int .i64 p.webs, .slice (some ⟨bo, oo, none⟩) (no) (co), .slice (al) (L.length) (cl), .slice (a17') (np) (c18'), .int .i64 wa, .bool true] := ⟨_, rfl⟩
  refine tail_skip (o := _) rfl ⟨rfl, rfl⟩ (run_seg hW11 (fr_ev k10_67) (rfl) nb8 rfl rfl rfl rfl) ?_
  obtain ⟨fB11, nb11, ot11, z11⟩ := seg_facts hW11 fB8 nb8 (by omega)
  have q31' := KeepX.trans q26' (keepX_row hW11)
  clear hW11
  have q32' := RowA.ot q27' ot11 z11
  have q33' := RowA.ot q28' ot11 z11
  have q34' := RowA.ot q29' ot11 z11
  have q35' := q30'
  refine wpOps_end ?_
  refine hK7 _ _ ?_
  refine wp_ret ?_
  refine then_ret ?_
  refine leave_gen (v := .tuple #[]) (.inr rfl) (by simp [results, Try.results56, go_sem]) ?_
  subst hnp
  exact ⟨rfl, q31', by rw [tryF, if_pos hc55_]; exact ⟨_, _, nb11, q35', q34'⟩⟩
 ·
  have hc9' := hc9; try simp only [ba] at hc9'
  have hc55_ := hc9
  refine wp_skip ?_
  refine hK7 _ _ ?_
  refine wp_ret ?_
  refine then_ret ?_
  refine leave_gen (v := .tuple #[]) (.inr rfl) (by simp [results, Try.results56, go_sem]) ?_
  exact ⟨rfl, q9', by rw [tryF, if_neg (by simpa using hc55_)]; exact ⟨a0, c0, b3_0, hbc, q10'⟩⟩
end Go.Proofs.Ytnhipdbdolabkaa
