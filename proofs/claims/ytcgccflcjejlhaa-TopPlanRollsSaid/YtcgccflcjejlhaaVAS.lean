/- Part of the proof: what the claim leans on. -/
import Derived.Test.YtcgccflcjejlhaaVAO
import Derived.Test.YtcgccflcjejlhaaVAP
import Derived.Test.YtcgccflcjejlhaaVAR
import Derived.Test.YtcgccflcjejlhaaVAI
import Derived.Test.YtcgccflcjejlhaaVAC
import Derived.Test.YtcgccflcjejlhaaVAH
import Derived.Test.YtcgccflcjejlhaaVAJ
import Derived.Test.YtcgccflcjejlhaaVAK
set_option maxHeartbeats 8000000
set_option maxRecDepth 100000
set_option linter.unusedSimpArgs false
set_option linter.unusedVariables false
namespace Go.Proofs.Ytcgccflcjejlhaa
open Go.RowKit
def BoxS (p : Tp) (bo oo no co : Nat) (al : Option Addr) (cl : Nat) (L : List (List Int)) (ad : Nat → Option Addr) (cp : Nat → Nat) (bs : Nat) (q : Se) (W : World) : Prop :=
  ∃ a c, W.heap[bs]? = some (.cells #[.int .i64 p.wide, .int .i64 p.tlo, .int .i64 p.thi, .int .i64 p.webs, .slice (some ⟨bo, oo, none⟩) no co, .slice al (L.length) cl, .slice a (q.best.length) c, .int .i64 q.waste, .bool q.found] 168 (0, 0)) ∧ q.best.length ≤ c ∧ RowA W bs a q.best.length (plC L ad cp q.best)
theorem BoxS.below {p : Tp} {bo oo no co : Nat} {al : Option Addr} {cl : Nat} {L : List (List Int)} {ad : Nat → Option Addr} {cp : Nat → Nat} {bs : Nat} {q : Se} {W W' : World} (h : BoxS p bo oo no co al cl L ad cp bs q W) (hb : Below W.heap.size W W') : BoxS p bo oo no co al cl L ad cp bs q W' := by
  obtain ⟨a, c, h1, h2, h3⟩ := h; exact ⟨a, c, bwb h1 hb, h2, h3.below hb⟩
theorem RowA.ot {W W' : World} {bs n : Nat} {a : Option Addr} {cs : List Value} (h : RowA W bs a n cs) (hot : ∀ k x, k ≠ bs → W.heap[k]? = some x → W'.heap[k]? = some x) (hz : W.heap.size ≤ W'.heap.size) : RowA W' bs a n cs := by
  obtain ⟨h0, h⟩ := h
  refine ⟨h0, h.imp id ?_⟩
  rintro ⟨b, o, e, hne, hlt, hc⟩
  refine ⟨b, o, e, hne, Nat.lt_of_lt_of_le hlt hz, fun j u hj => ?_⟩
  have hb : W.heap[b]? = some W.heap[b] := Array.getElem?_eq_getElem hlt
  rw [← hc j u hj]
  exact World.cell?_of_block ((hot _ _ hne hb).trans hb.symm)
theorem tail_call {P : Program} {ops : Array Oper} {Q : Exit → Act → World → Prop} {i m N d : Nat} {g : Nat → Value} {W : World} {o : Oper} {fn : FuncId} {args : Array Value} {post : Ending → World → Prop} (ho : ops[i]? = some o) (hg : o.guard = none) (hd : o.dst = some d) (hr : (execOp (fr N g).eval o).run P W = .ok (.enter fn args) W)
    (hc : Calls P fn args W post) (h : ∀ v W', post (.returned v) W' → wpOps P ops Q (List.range' (i + 1) m) (fr N (upd g d v)) W') (h1 : ∀ W', ¬ post .outgrown W') (h2 : ∀ c W', ¬ post (.panicked c) W') : wpOps P ops Q (List.range' i (m + 1)) (fr N g) W := by
  rw [List.range'_succ, wpOps_cons]
  unfold wpOp
  simp only [ho, Region.wanted, hg, if_true]
  refine .inl ?_
  unfold Oper.wp
  rw [hr]
  refine Calls.mono hc fun e W' he => ?_
  cases e with
  | returned v =>
    show wpOps _ _ _ _ ((fr N g).put o.dst v) W'
    rw [hd, fr_put]; exact h v W' he
  | panicked c => exact absurd he (h2 c W')
  | outgrown => exact absurd he (h1 W')
def TryIt (p : Tp) (os : Nat → To) (bo oo no co : Nat) (al : Option Addr) (cl : Nat) (L : List (List Int)) (ad : Nat → Option Addr) (cp : Nat → Nat) (bs : Nat) (w : World) (m : Nat) : Prop :=
  ∀ (pl : List (Nat × Int)) (fr_ : Nat) (wa : Int) (gs : List Int) (q0 : Se) (ap : Option Addr) (np cp_ : Nat) (ag : Option Addr) (ng cg : Nat) (v1 : World), TryOk no L m pl fr_ wa gs → Below w.heap.size w v1 → BoxS p bo oo no co al cl L ad cp bs q0 v1 → RowA v1 bs ap np (plC L ad cp pl) → np = pl.length → np ≤ cp_ → (np = 0 → ap = none ∧ cp_ = 0) →
    Ii v1 ag ng cg gs → (∀ b o, ag = some ⟨b, o, none⟩ → b ≠ bs) →
    Calls Try.prog 65 #[.pointer (some ⟨bs, 0, none⟩), .slice ap np cp_, .int .i64 (fr_ : Int), .int .i64 (m : Int), .int .i64 wa, .slice ag ng cg] v1 fun e W' => e = .returned (.tuple #[]) ∧ KeepX bs v1 W' ∧ BoxS p bo oo no co al cl L ad cp bs (tryF p os no L m pl fr_ wa gs q0) W'
theorem try_0 (p : Tp) (os : Nat → To) (bo oo no co : Nat) (al : Option Addr) (cl bl ol : Nat) (L : List (List Int)) (ad : Nat → Option Addr) (cp : Nat → Nat) (bs : Nat) {w : World} (hO : OrdR w bo oo no os) (hp : TpIn p) (ho : ∀ i, i < no → ToIn (os i)) (gno : no ≤ 4) (g1no : 1 ≤ no) (hL : LOk p os no L) (hLL : LLr w bl ol L ad cp) (hal : 0 < L.length → al = some ⟨bl, ol, none⟩) (hbs : w.heap.size ≤ bs) : TryIt p os bo oo no co al cl L ad cp bs w 0 := by
 intro pl fr_ wa gs q0 ap np cp_ ag ng cg v1 hT hB0 hBx hRA hnp hncp hcp0 hG hgne
 obtain ⟨a0, c0, hbx, hbc, hbr⟩ := hBx
 have gng : ng = no := by rw [hG.1, hT.l]
 have lt_bs := ltb hbx
 have gw_ := hT.w
 have gu_ := hT.u
 have gf_ := hT.fr
 have gLl := hL.len
 have g0_ : (0 : Nat) + pl.length ≤ 3 := gu_
 show Calls _ _ #[_, _, _, .int .i64 (0 : Int), _, _] _ _
 refine calls_fr Try.func65 Try.ntmps65 rfl rfl fun g hg => ?_
 have k0 : g 0 = .pointer (some ⟨bs, 0, none⟩) := hg 0
 have k1 : g 1 = .slice ap np cp_ := hg 1
 have k2 : g 2 = .int .i64 ((fr_ : Int)) := hg 2
 have k3 : g 3 = .int .i64 0 := hg 3
 have k4 : g 4 = .int .i64 wa := hg 4
 have k5 : g 5 = .slice ag ng cg := hg 5
 clear hg
 refine wp_seq_k fun K1 hK1 => ?_
 refine rw_ 16 [(16, 0), (17, 1), (18, 2), (19, 3), (20, 4), (21, 5), (22, 6), (23, 7), (24, 8), (25, 9), (26, 10), (27, 11), (28, 12), (29, 13), (30, 14), (31, 15)] [[], [0], [1], [2], [3], [4], [4], [4, 6], [4, 7], [4, 8], [4, 5, 9], [4, 10], [11], [12], [12, 13], [12, 14]] (rel [is (.pointer (some ⟨bs, 0, none⟩)), is (.pointer (some ⟨bs, 0, none⟩)), is (.pointer (some ⟨bs, 8, none⟩)), iB q0.found, iB q0.found, gd (q0.found) true (iI wa), gd (q0.found) true (is (.pointer (some ⟨bs, 0, none⟩))), gd (q0.found) true (is (.pointer (some ⟨bs, 0, none⟩))), gd (q0.found) true (is (.pointer (some ⟨bs, 7, none⟩))), gd (q0.found) true (iI q0.waste), gd (q0.found) true (iB (decide (q0.waste ≤ wa))), iB ((q0.found) && (decide (q0.waste ≤ wa))), iB ((q0.found) && (decide (q0.waste ≤ wa))), gd ((q0.found) && (decide (q0.waste ≤ wa))) true (iI 0), gd ((q0.found) && (decide (q0.waste ≤ wa))) true (iB false), iB false])
  ⟨fun f s W j k m n q a => opm (a.v 0 k0),
  fun f s W j k m n q a => opv rfl rfl (by simp [go_sem, a.e 16 (k 0 rfl)]) rfl,
  fun f s W j k m n q a => opv rfl rfl (by simp [go_sem, a.e 17 (k 1 rfl)]) rfl,
  fun f s W j k m n q a => opv rfl rfl (by simp [go_sem, a.e 18 (k 2 rfl), cb hbx j 8]) rfl,
  fun f s W j k m n q a => opm (a.v 19 (k 3 rfl)),
  fun f s W j k m n q a => gdo rfl rfl (a.says (d := 20) rfl rfl (k 4 rfl)) fun hgd0 => gv (by simp [go_sem, a.e 4 k4]) rfl,
  fun f s W j k m n q a => gdo rfl rfl (a.says (d := 20) rfl rfl (k 4 rfl)) fun hgd0 => gv (by simp [go_sem, a.e 0 k0]) rfl,
  fun f s W j k m n q a => gdo rfl rfl (a.says (d := 20) rfl rfl (k 4 rfl)) fun hgd0 => gv (by simp [go_sem, a.e 22 ((k 6 rfl).1 hgd0)]) rfl,
  fun f s W j k m n q a => gdo rfl rfl (a.says (d := 20) rfl rfl (k 4 rfl)) fun hgd0 => gv (by simp [go_sem, a.e 23 ((k 7 rfl).1 hgd0)]) rfl,
  fun f s W j k m n q a => gdo rfl rfl (a.says (d := 20) rfl rfl (k 4 rfl)) fun hgd0 => gv (by simp [go_sem, a.e 24 ((k 8 rfl).1 hgd0), cb hbx j 7]) rfl,
  fun f s W j k m n q a => gdo rfl rfl (a.says (d := 20) rfl rfl (k 4 rfl)) fun hgd0 => gv (by simp [go_sem, a.e 21 ((k 5 rfl).1 hgd0), a.e 25 ((k 9 rfl).1 hgd0)]) rfl,
  fun f s W j k m n q a => opk (c := q0.found) rfl rfl (fun hpk => by simp [go_sem, hpk, a.e 20 (k 4 rfl)]) (fun hpk => by simp [go_sem, hpk, a.e 20 (k 4 rfl), a.e 26 ((k 10 rfl).1 hpk)]),
  fun f s W j k m n q a => opm (a.v 27 (k 11 rfl)),
  fun f s W j k m n q a => gdo rfl rfl (a.says (d := 28) rfl rfl (k 12 rfl)) fun hgd0 => gv (by simp [go_sem, a.e 3 k3]) rfl,
  fun f s W j k m n q a => gdo rfl rfl (a.says (d := 28) rfl rfl (k 12 rfl)) fun hgd0 => gv (by simp [go_sem, a.e 29 ((k 13 rfl).1 hgd0)]) rfl,
  fun f s W j k m n q a => opk (c := (q0.found) && (decide (q0.waste ≤ wa))) rfl rfl (fun hpk => by first | (simp [go_sem, hpk, a.e 28 (k 12 rfl)]; done) | (have hpk' := hpk; simp at hpk'; simp [go_sem, hpk', hpk, a.e 28 (k 12 rfl)])) (fun hpk => by first | (simp [go_sem, hpk, a.e 28 (k 12 rfl), a.e 30 ((k 14 rfl).1 hpk)]; done) | (have hpk' := hpk; simp at hpk'; simp [go_sem, hpk', hpk, a.e 28 (k 12 rfl), a.e 30 ((k 14 rfl).1 hpk)])), trivial⟩ ?_
 intro f1 s1 W1 hB1 g1 hg1 z1
 have q1' := (KeepX.trans (KeepX.refl bs v1) (KeepX.of_below hB1.below))
 have q2' := (hbr.below hB1.below)
 have q3' := (hG.bw hB1)
 have q4' := (hRA.below hB1.below)
 have k1_3 := kt hg1 3 k3
 have k1_31 := kt hg1 31 (hB1.is 15)
 refine wp_cond_false ((fr_eval rfl).trans k1_31) ?_
 refine wp_skip ?_
 refine hK1 _ _ ?_
 refine wp_seq_k fun K4 hK4 => ?_
 refine rw_ 2 [(32, 0), (33, 1)] [[], [0]] (rel [iI 0, iB true])
  ⟨fun f s W j k m n q a => opm (a.v 3 k1_3),
  fun f s W j k m n q a => opv rfl rfl (by simp [go_sem, a.e 32 (k 0 rfl)]) rfl, trivial⟩ ?_
 intro f2 s2 W2 hB2 g2 hg2 z2
 have fB2 := hB2.f (hB1.f hB0)
 have b2_0 := hB2.b (hB1.b hbx)
 have q5' := (KeepX.trans q1' (KeepX.of_below hB2.below))
 have q6' := (q2'.below hB2.below)
 have q7' := (q3'.bw hB2)
 have q8' := (q4'.below hB2.below)
 have k2_0 := kt hg2 0 (kt hg1 0 k0)
 have k2_4 := kt hg2 4 (kt hg1 4 k4)
 have k2_5 := kt hg2 5 (kt hg1 5 k5)
 have k2_33 := kt hg2 33 (hB2.is 1)
 refine wp_cond_true ((fr_eval rfl).trans k2_33) ?_
 refine wp_seq_k fun K7 hK7 => ?_
 refine rw_ 22 [(34, 0), (35, 1), (36, 2), (37, 3), (38, 4), (39, 5), (40, 6), (41, 7), (42, 8), (43, 9), (44, 10), (45, 11), (46, 12), (47, 13), (48, 14), (49, 15), (50, 16), (51, 17), (52, 18), (53, 19), (54, 20), (55, 21)] [[], [0], [1], [2], [], [3, 4], [5], [6], [7], [7, 8], [7, 9], [7, 10], [7, 11], [7, 12], [13], [13], [13, 15], [13, 16], [13, 17], [13, 14, 18], [7, 13, 19], [7, 20]] (rel [is (.pointer (some ⟨bs, 0, none⟩)), is (.pointer (some ⟨bs, 0, none⟩)), is (.pointer (some ⟨bs, 0, none⟩)), is (.agg #[.int .i64 p.wide, .int .i64 p.tlo, .int .i64 p.thi, .int .i64 p.webs, .slice (some ⟨bo, oo, none⟩) no co]), is (.slice ag ng cg), iI ((wrF os gs no 0)), iB (decide ((wrF os gs no 0) < 0)), iB (decide ((wrF os gs no 0) < 0)), gd (decide ((wrF os gs no 0) < 0)) true (is (.pointer (some ⟨bs, 0, none⟩))), gd (decide ((wrF os gs no 0) < 0)) true (is (.pointer (some ⟨bs, 0, none⟩))), gd (decide ((wrF os gs no 0) < 0)) true (is (.pointer (some ⟨bs, 8, none⟩))), gd (decide ((wrF os gs no 0) < 0)) true (iB q0.found), gd (decide ((wrF os gs no 0) < 0)) true (iB (!(q0.found))), gd (decide ((wrF os gs no 0) < 0)) true (iB (!(q0.found))), gd (decide ((wrF os gs no 0) < 0)) true (gd (!(q0.found)) false (iI wa)), gd (decide ((wrF os gs no 0) < 0)) true (gd (!(q0.found)) false (is (.pointer (some ⟨bs, 0, none⟩)))), gd (decide ((wrF os gs no 0) < 0)) true (gd (!(q0.found)) false (is (.pointer (some ⟨bs, 0, none⟩)))), gd (decide ((wrF os gs no 0) < 0)) true (gd (!(q0.found)) false (is (.pointer (some ⟨bs, 7, none⟩)))), gd (decide ((wrF os gs no 0) < 0)) true (gd (!(q0.found)) false (iI q0.waste)), gd (decide ((wrF os gs no 0) < 0)) true (gd (!(q0.found)) false (iB (decide (wa < q0.waste)))), gd (decide ((wrF os gs no 0) < 0)) true (iB ((!(q0.found)) || (decide (wa < q0.waste)))), iB ((decide ((wrF os gs no 0) < 0)) && ((!(q0.found)) || (decide (wa < q0.waste))))])
  ⟨fun f s W j k m n q a => opm (a.v 0 k2_0),
  fun f s W j k m n q a => opv rfl rfl (by simp [go_sem, a.e 34 (k 0 rfl)]) rfl,
  fun f s W j k m n q a => opv rfl rfl (by simp [go_sem, a.e 35 (k 1 rfl)]) rfl,
  fun f s W j k m n q a => opv rfl rfl (by simp [go_sem, a.e 36 (k 2 rfl), cb b2_0 j 0, cb b2_0 j 1, cb b2_0 j 2, cb b2_0 j 3, cb b2_0 j 4]) rfl,
  fun f s W j k m n q a => opm (a.v 5 k2_5),
  fun f s W j k m n q a => by have r := bwt fB2 j; exact opc rfl rfl (by simp [go_sem, a.e 37 (k 3 rfl), a.e 38 (k 4 rfl)]) (wrong_any p os bo oo no co ag ng cg gs W (hO.below r) gno ((q7'.below j (Nat.le_refl _))) gng),
  fun f s W j k m n q a => opv rfl rfl (by simp [go_sem, a.e 39 (k 5 rfl)]) rfl,
  fun f s W j k m n q a => opm (a.v 40 (k 6 rfl)),
  fun f s W j k m n q a => gdo rfl rfl (a.says (d := 41) rfl rfl (k 7 rfl)) fun hgd0 => gv (by simp [go_sem, a.e 0 k2_0]) rfl,
  fun f s W j k m n q a => gdo rfl rfl (a.says (d := 41) rfl rfl (k 7 rfl)) fun hgd0 => gv (by simp [go_sem, a.e 42 ((k 8 rfl).1 hgd0)]) rfl,
  fun f s W j k m n q a => gdo rfl rfl (a.says (d := 41) rfl rfl (k 7 rfl)) fun hgd0 => gv (by simp [go_sem, a.e 43 ((k 9 rfl).1 hgd0)]) rfl,
  fun f s W j k m n q a => gdo rfl rfl (a.says (d := 41) rfl rfl (k 7 rfl)) fun hgd0 => gv (by simp [go_sem, a.e 44 ((k 10 rfl).1 hgd0), cb b2_0 j 8]) rfl,
  fun f s W j k m n q a => gdo rfl rfl (a.says (d := 41) rfl rfl (k 7 rfl)) fun hgd0 => gv (by simp [go_sem, a.e 45 ((k 11 rfl).1 hgd0)]) rfl,
  fun f s W j k m n q a => gdo rfl rfl (a.says (d := 41) rfl rfl (k 7 rfl)) fun hgd0 => gv (by simp [go_sem, a.e 46 ((k 12 rfl).1 hgd0)]) rfl,
  fun f s W j k m n q a => gdo2 rfl rfl a (d := 47) rfl rfl (k 13 rfl) fun hgd0 hgd1 => gv (by simp [go_sem, a.e 4 k2_4]) rfl,
  fun f s W j k m n q a => gdo2 rfl rfl a (d := 47) rfl rfl (k 13 rfl) fun hgd0 hgd1 => gv (by simp [go_sem, a.e 0 k2_0]) rfl,
  fun f s W j k m n q a => gdo2 rfl rfl a (d := 47) rfl rfl (k 13 rfl) fun hgd0 hgd1 => gv (by simp [go_sem, a.e 49 (((k 15 rfl).1 hgd0).1 hgd1)]) rfl,
  fun f s W j k m n q a => gdo2 rfl rfl a (d := 47) rfl rfl (k 13 rfl) fun hgd0 hgd1 => gv (by simp [go_sem, a.e 50 (((k 16 rfl).1 hgd0).1 hgd1)]) rfl,
  fun f s W j k m n q a => gdo2 rfl rfl a (d := 47) rfl rfl (k 13 rfl) fun hgd0 hgd1 => gv (by simp [go_sem, a.e 51 (((k 17 rfl).1 hgd0).1 hgd1), cb b2_0 j 7]) rfl,
  fun f s W j k m n q a => gdo2 rfl rfl a (d := 47) rfl rfl (k 13 rfl) fun hgd0 hgd1 => gv (by simp [go_sem, a.e 48 (((k 14 rfl).1 hgd0).1 hgd1), a.e 52 (((k 18 rfl).1 hgd0).1 hgd1)]) rfl,
  fun f s W j k m n q a => gdo rfl rfl (a.says (d := 41) rfl rfl (k 7 rfl)) fun hgd0 => gk (c := !(q0.found)) (fun hpk => by simp [go_sem, hpk, a.e 47 ((k 13 rfl).1 hgd0), a.e 53 (((k 19 rfl).1 hgd0).1 hpk)]) (fun hpk => by simp [go_sem, hpk, a.e 47 ((k 13 rfl).1 hgd0)]),
  fun f s W j k m n q a => opk (c := decide ((wrF os gs no 0) < 0)) rfl rfl (fun hpk => by first | (simp [go_sem, hpk, a.e 41 (k 7 rfl)]; done) | (have hpk' := hpk; simp at hpk'; simp [go_sem, hpk', hpk, a.e 41 (k 7 rfl)])) (fun hpk => by first | (simp [go_sem, hpk, a.e 41 (k 7 rfl), a.e 54 ((k 20 rfl).1 hpk)]; done) | (have hpk' := hpk; simp at hpk'; simp [go_sem, hpk', hpk, a.e 41 (k 7 rfl), a.e 54 ((k 20 rfl).1 hpk)])), trivial⟩ ?_
 intro f3 s3 W3 hB3 g3 hg3 z3
 have b3_0 := hB3.b b2_0
 have q9' := (KeepX.trans q5' (KeepX.of_below hB3.below))
 have q10' := (q6'.below hB3.below)
 have q11' := (q7'.bw hB3)
 have q12' := (q8'.below hB3.below)
 have k3_0 := kt hg3 0 k2_0
 have k3_1 := kt hg3 1 (kt hg2 1 (kt hg1 1 k1))
 have k3_4 := kt hg3 4 k2_4
 have k3_55 := kt hg3 55 (hB3.is 21)
 refine wp_cond_split (t := (decide ((wrF os gs no 0) < 0)) && ((!(q0.found)) || (decide (wa < q0.waste)))) ((fr_eval rfl).trans k3_55) (fun hc9 => ?_) (fun hc9 => ?_)
 ·
  have hc9' := hc9; try simp only [ba] at hc9'
  have hc55_ := hc9
  refine rz 8 [(56, 0), (57, 1), (58, 2), (59, 3), (60, 4), (61, 5), (62, 6), (63, 7), (64, 9), (65, 10), (66, 12), (67, 13)] [[], [], [], [], [3], [], [0], [6], [0, 3, 4, 6, 7], [0, 1, 3, 4, 5, 6, 7, 8], [0, 1, 3, 4, 5, 6, 7, 8, 9], [0, 1, 3, 4, 5, 6, 7, 8, 9, 10], [0, 1, 2, 3, 4, 5, 6, 7, 8, 9, 10, 11], [0, 1, 2, 3, 4, 5, 6, 7, 8, 9, 10, 11, 12], [0, 1, 2, 3, 4, 5, 6, 7, 8, 9, 10, 11, 12, 13]] (rel [is (.pointer (some ⟨bs, 0, none⟩)), is (.pointer (some ⟨bs, 0, none⟩)), is (.pointer (some ⟨bs, 0, none⟩)), is (.slice ap np cp_), ab fun v W => PlC bs (np) (plC L ad cp pl) v W, iI wa, is (.pointer (some ⟨bs, 0, none⟩)), is (.pointer (some ⟨bs, 6, none⟩))])
   ⟨is_k, is_k, is_k, is_k, ab_k fun v W W' hb h => (h.below hb), is_k, is_k, is_k, trivial⟩
   ⟨fun f s W j k m n q a => opm (a.v 0 k3_0),
  fun f s W j k m n q a => opm (a.v 0 k3_0),
  fun f s W j k m n q a => opm (a.v 0 k3_0),
  fun f s W j k m n q a => opm (a.v 1 k3_1),
  fun f s W j k m n q a => opd (args := #[.slice ap np cp_]) rfl rfl (by simp [go_sem, a.e 59 (k 3 rfl)]) (cloneS_any bs np cp_ ap (plC L ad cp pl) W ((q12'.below j)) (by omega) (fun e => (hcp0 e).2) (by have := j.size; omega) (fun e => (hcp0 e).1)) ((fun e W' h => by obtain ⟨v, e1, h1, h2⟩ := h; exact ⟨_, e1, h2, h1⟩)),
  fun f s W j k m n q a => opm (a.v 4 k3_4),
  fun f s W j k m n q a => opv rfl rfl (by simp [go_sem, a.e 56 (k 0 rfl)]) rfl,
  fun f s W j k m n q a => opv rfl rfl (by simp [go_sem, a.e 62 (k 6 rfl)]) rfl, trivial⟩ ?_
  intro f4 s4 W4 hB4 g4 hg4 z4
  have fB4 := hB4.f (hB3.f fB2)
  have b4_0 := hB4.b b3_0
  have q13' := (KeepX.trans q9' (KeepX.of_below hB4.below))
  have q14' := (q10'.below hB4.below)
  have q15' := (q11'.bw hB4)
  have q16' := (q12'.below hB4.below)
  obtain ⟨a17', c18', r4_4, q20', q19'⟩ := hB4.is 4
  have k4_57 := kt hg4 57 (hB4.is 1)
  have k4_60 := kt hg4 60 r4_4
  have k4_63 := kt hg4 63 (hB4.is 7)
  obtain ⟨W5, hW5⟩ : ∃ W', W' = W4.setRow bs #[.int .i64 p.wide, .int .i64 p.tlo, .int .i64 p.thi, .int .i64 p.webs, .slice (some ⟨bo, oo, none⟩) no co, .slice al (L.length) cl, .slice a17' np c18', .int .i64 q0.waste, .bool q0.found] := ⟨_, rfl⟩
  refine tsk (o := _) rfl ⟨rfl, rfl⟩ (run_seg hW5 (fr_ev k4_63) (fr_ev k4_60) b4_0 rfl rfl rfl rfl) ?_
  obtain ⟨fB5, nb5, ot5, z5⟩ := sgf hW5 fB4 b4_0 (by omega)
  have q21' := KeepX.trans q13' (keepX_row hW5)
  clear hW5
  have q22' := RowA.ot q14' ot5 z5
  have q23' := RowA.ot q16' ot5 z5
  have q24' := RowA.ot q19' ot5 z5
  have q25' := q20'
  refine tail_value (o := _) rfl rfl rfl (v := .pointer (some ⟨bs, 0, none⟩)) (by simp [go_sem, frv 134 k4_57]) ?_
  generalize hg6 : upd g4 64 (.pointer (some ⟨bs, 0, none⟩)) = g6
  have k6_64 := kt hg6 64 (upd_same _ _ _)
  refine tail_value (o := _) rfl rfl rfl (v := .pointer (some ⟨bs, 7, none⟩)) (by simp [go_sem, frv 134 k6_64]) ?_
  generalize hg7 : upd g6 65 (.pointer (some ⟨bs, 7, none⟩)) = g7
  have k7_58 := ku hg7 58 (ku hg6 58 (kt hg4 58 (hB4.is 2)))
  have k7_61 := ku hg7 61 (ku hg6 61 (kt hg4 61 (hB4.is 5)))
  have k7_65 := kt hg7 65 (upd_same _ _ _)
  obtain ⟨W8, hW8⟩ : ∃ W', W' = W5.setRow bs #[.int .i64 p.wide, .int .i64 p.tlo, .int .i64 p.thi, .int .i64 p.webs, .slice (some ⟨bo, oo, none⟩) no co, .slice al (L.length) cl, .slice a17' np c18', .int .i64 wa, .bool q0.found] := ⟨_, rfl⟩
  refine tsk (o := _) rfl ⟨rfl, rfl⟩ (run_seg hW8 (fr_ev k7_65) (fr_ev k7_61) nb5 rfl rfl rfl rfl) ?_
  obtain ⟨fB8, nb8, ot8, z8⟩ := sgf hW8 fB5 nb5 (by omega)
  have q26' := KeepX.trans q21' (keepX_row hW8)
  clear hW8
  have q27' := RowA.ot q22' ot8 z8
  have q28' := RowA.ot q23' ot8 z8
  have q29' := RowA.ot q24' ot8 z8
  have q30' := q25'
  refine tail_value (o := _) rfl rfl rfl (v := .pointer (some ⟨bs, 0, none⟩)) (by simp [go_sem, frv 134 k7_58]) ?_
  generalize hg9 : upd g7 66 (.pointer (some ⟨bs, 0, none⟩)) = g9
  have k9_66 := kt hg9 66 (upd_same _ _ _)
  refine tail_value (o := _) rfl rfl rfl (v := .pointer (some ⟨bs, 8, none⟩)) (by simp [go_sem, frv 134 k9_66]) ?_
  generalize hg10 : upd g9 67 (.pointer (some ⟨bs, 8, none⟩)) = g10
  have k10_67 := kt hg10 67 (upd_same _ _ _)
  obtain ⟨W11, hW11⟩ : ∃ W', W' = W8.setRow bs #[.int .i64 p.wide, .int .i64 p.tlo, .int .i64 p.thi, .int .i64 p.webs, .slice (some ⟨bo, oo, none⟩) no co, .slice al (L.length) cl, .slice a17' np c18', .int .i64 wa, .bool true] := ⟨_, rfl⟩
  refine tsk (o := _) rfl ⟨rfl, rfl⟩ (run_seg hW11 (fr_ev k10_67) (rfl) nb8 rfl rfl rfl rfl) ?_
  obtain ⟨fB11, nb11, ot11, z11⟩ := sgf hW11 fB8 nb8 (by omega)
  have q31' := KeepX.trans q26' (keepX_row hW11)
  clear hW11
  have q32' := RowA.ot q27' ot11 z11
  have q33' := RowA.ot q28' ot11 z11
  have q34' := RowA.ot q29' ot11 z11
  have q35' := q30'
  refine wpe ?_
  refine hK7 _ _ ?_
  refine wp_ret ?_
  refine then_ret ?_
  refine leave_gen (v := .tuple #[]) (.inr rfl) (by simp [results, Try.results65, go_sem]) ?_
  subst hnp
  exact ⟨rfl, q31', by rw [tryF, if_pos hc55_]; exact ⟨_, _, nb11, q35', q34'⟩⟩
 ·
  have hc9' := hc9; try simp only [ba] at hc9'
  have hc55_ := hc9
  refine wp_skip ?_
  refine hK7 _ _ ?_
  refine wp_ret ?_
  refine then_ret ?_
  refine leave_gen (v := .tuple #[]) (.inr rfl) (by simp [results, Try.results65, go_sem]) ?_
  exact ⟨rfl, q9', by rw [tryF, if_neg (by simpa using hc55_)]; exact ⟨a0, c0, b3_0, hbc, q10'⟩⟩
open Go.RowKit
theorem da_infoI : (Try.prog.info? 3).map (fun i => (i.zero, i.size, i.bytes)) = some (some (.int .i64 0), 1, 8) := by kernel_rfl
open Go.RowKit
open Go.RowKit
def spC (ss : Nat → Int × Int) (i : Nat) : List Value := [.int .i64 (ss i).1, .int .i64 (ss i).2]
theorem infoSp : (Try.prog.info? 43).map (fun i => (i.zero, i.size, i.bytes)) = some (some (.agg #[.int .i64 0, .int .i64 0]), 2, 16) := by kernel_rfl
open Go.RowKit
open Go.RowKit
open Go.RowKit
theorem foldl_2r (X : Array Value) (p q : Tmp) (a b : Value) : ((#[p, q] : Array Tmp).zip #[a, b]).foldl (fun t (p, v) => t.setIfInBounds p v) X = (X.setIfInBounds p a).setIfInBounds q b := by
  simp [Array.zip, ← Array.foldl_toList]
theorem foldl_1r (X : Array Value) (p : Tmp) (a : Value) : ((#[p] : Array Tmp).zip #[a]).foldl (fun t (p, v) => t.setIfInBounds p v) X = X.setIfInBounds p a := by
  simp [Array.zip, ← Array.foldl_toList]
theorem ro_end (nu de tl : Int) (ss : Nat → Int × Int) (ra : Option Addr) (n c : Nat) (w : World) (hO : SpL w ra n ss) (ho : ∀ i, i < n → RoIn tl (ss i)) (gn : n ≤ 6) (ht : 0 ≤ tl ∧ tl ≤ 10000) :
  Calls Try.prog 43 #[.agg #[.int .i64 nu, .int .i64 de, .int .i64 tl, .slice ra n c]] w (fun e w' => e = .returned (.agg #[.int .i64 (usplF tl ss n).1, .int .i64 (usplF tl ss n).2]) ∧ Below w.heap.size w w') := by
 refine calls_frM (n := 10) Try.func43 Try.ntmps43 rfl rfl fun g hg => ?_
 have k0 : g 0 = .agg #[.int .i64 nu, .int .i64 de, .int .i64 tl, .slice ra n c] := hg 0
 clear hg
 have fB0 : Below w.heap.size w w := Below.refl _ _
 refine rw_ 2 [(1, 0), (2, 1)] [[], []] (rel [bx 0 #[.int .i64 nu, .int .i64 de, .int .i64 tl, .slice ra n c] 128, bx 1 #[.int .i64 0, .int .i64 0] 43])
  ⟨fun f s W d k l m q a => opb rfl rfl (by simp [go_sem, a.e 0 k0]),
  fun f s W d k l m q a => opb rfl rfl (by simp [go_sem]), trivial⟩ ?_
 intro f1 s1 W1 hB1 g1 hg1 z1
 obtain ⟨r1_0, br1_0⟩ := hB1.is 0
 have lr1_0 := hB1.lr 0 br1_0
 obtain ⟨r1_1, br1_1⟩ := hB1.is 1
 have lr1_1 := hB1.lr 1 br1_1
 have ne1_0_1 := hB1.nb 0 1
 have k1_1 := kt hg1 1 r1_0
 refine wp_seq_k fun K2 hK2 => ?_
 refine rw_ 2 [(5, 0), (6, 1)] [[], [0]] (rel [is (.agg #[.int .i64 nu, .int .i64 de, .int .i64 tl, .slice ra n c]), is (.func (.func 87) #[.agg #[.int .i64 nu, .int .i64 de, .int .i64 tl, .slice ra n c]] #[])])
  ⟨fun f s W d k l m q a => opl rfl rfl rfl (a.v 1 k1_1) (bwb br1_0 d) Try.underlying128 rfl (by kernel_rfl) rfl,
  fun f s W d k l m q a => opv rfl rfl (by simp [go_sem, a.e 5 (k 0 rfl)]) rfl, trivial⟩ ?_
 intro f2 s2 W2 hB2 g2 hg2 z2
 have fB2 := hB2.f (hB1.f fB0)
 have b2_0 := hB2.b br1_0
 have b2_1 := hB2.b br1_1
 have k2_2 := kt hg2 2 (kt hg1 2 r1_1)
 have k2_6 := kt hg2 6 (hB2.is 1)
 refine wp_block ?_
 obtain ⟨V, hV⟩ : ∃ V, W2.heap.size = V := ⟨_, rfl⟩
 have hVw_ : w.heap.size ≤ W2.heap.size := Below.size fB2
 obtain ⟨G0, hG0⟩ : ∃ G : Nat → Prop, G = fun b => b = (s1 1) := ⟨_, rfl⟩
 obtain ⟨PP, hP⟩ : ∃ P : Nat → (Nat → Prop) → World → Prop, P = fun i G_ W_ => W_.heap[(s1 1)]? = some (.cells #[.int .i64 ((usplF tl ss i).1), .int .i64 ((usplF tl ss i).2)] 43 (0, 0)) ∧ ∀ b, G_ b ↔ b = (s1 1) := ⟨_, rfl⟩
 obtain ⟨AA, hA⟩ : ∃ A : Nat → (Nat → Prop) → Act → World → Prop, A = fun j G_ a' W_ => ∃ g' : Nat → Value, a' = fr 11 g' ∧ g' 2 = .pointer (some ⟨(s1 1), 0, none⟩) ∧ ∃ b10, g' 4 = .pointer (some ⟨b10, 0, none⟩) ∧ W_.heap[b10]? = some (.cells #[.int .i64 ((usplF tl ss (j + 1)).1), .int .i64 ((usplF tl ss (j + 1)).2)] 43 (0, 0)) ∧ V ≤ b10 := ⟨_, rfl⟩
 refine (wpIn_wide (n := 10)).1 (range_gx (n := 10) (gf := 87) (rcv := #[.agg #[.int .i64 nu, .int .i64 de, .int .i64 tl, .slice ra n c]]) (lb := #[]) ((fr_eval rfl).trans k2_6) (enters_of Try.func87 (by kernel_rfl) rfl) n (fun i _ v _ => v = #[.int .i64 (i : Int), .agg #[.int .i64 (usplF tl ss (i + 1)).1, .int .i64 (usplF tl ss (i + 1)).2]]) (fun i G v W h => by rw [h]; rfl) (RgI w W2 G0 PP) (fun _ => False) (fun _ h => h.elim) ?hIst G0 ?hG0b ?hit ?h0 AA ?hAp ?hassign ?hbody ?hdone)
 case hIst =>
  refine rgI_stab hVw_ ?_
  subst hP hG0
  rintro i G W_ W' ⟨h3, h4⟩ hk
  exact ⟨hk.block _ _ (fun e => e.2 ((h4 _).2 rfl)) h3, h4⟩
 case hG0b => subst hG0; intro b hb; rw [show b = (s1 1) from hb]; exact ltb b2_1
 case hit =>
  intro l' W1 J' hl hl1 hb1 hJ's hJ'I hY' hJ0'
  have hz1 := hb1.size
  have hJG' : ∀ i G W_, J' i G W_ → ∀ b, G b → w.heap.size ≤ b ∧ b < W_.heap.size := fun i G W_ h => by
   have h_ := hJ'I i G W_ h
   subst hP hG0
   intro b hb
   rw [(h_.2.2.2 b).1 hb]
   exact ⟨by omega, ltb h_.2.2.1⟩
  have fB1' := fB2.trans (hb1.mono (Below.size fB2))
  refine splices_it nu de tl ss ra n c hO ho gn ht l' G0 J' W1 fB1' hJ's hJG' (fun i G W_ hi hj l => hY' i G W_ _ hi hj l rfl) hJ0'
 case h0 =>
  subst hP hG0
  exact ⟨fB2, KeepP.refl _ _, b2_1, fun b => Iff.rfl⟩
 case hAp =>
  subst hA
  rintro j G_ a' X r o hl ⟨g', h1, u2, b10, h3, h4, h5⟩
  exact ⟨g', h1, u2, b10, h3, (World.putObj_heap_other (fun e => by rw [e, hl] at h4; cases h4)).trans h4, h5⟩
 case hassign =>
  intro l' j G_ X v K hj hIX hsz hE hK
  subst hE
  have e : ({ tmps := ((#[7, 8] : Array Tmp).zip #[.int .i64 ((j : Int)), .agg #[.int .i64 ((usplF tl ss (j + 1)).1), .int .i64 ((usplF tl ss (j + 1)).2)]]).foldl (fun t (p, v) => t.setIfInBounds p v) (fr 11 g2).tmps, defers := [] } : Act) = fr 11 (upd (upd g2 7 (.int .i64 ((j : Int)))) 8 (.agg #[.int .i64 ((usplF tl ss (j + 1)).1), .int .i64 ((usplF tl ss (j + 1)).2)])) := by
   rw [foldl_2r, ← fr_set, ← fr_set]
  rw [show (fr 11 g2 : Act).tmps = (fr 11 g2).tmps from rfl, e]
  obtain ⟨g7, hg7⟩ : ∃ g7, (upd (upd g2 7 (.int .i64 ((j : Int)))) 8 (.agg #[.int .i64 ((usplF tl ss (j + 1)).1), .int .i64 ((usplF tl ss (j + 1)).2)])) = g7 := ⟨_, rfl⟩
  rw [hg7]
  have k7_2 : g7 2 = .pointer (some ⟨(s1 1), 0, none⟩) := (congrFun hg7.symm 2).trans ((upd_other _ _ (by decide)).trans ((upd_other _ _ (by decide)).trans k2_2))
  have k7_7 : g7 7 = .int .i64 ((j : Int)) := (congrFun hg7.symm 7).trans ((upd_other _ _ (by decide)).trans (upd_same _ _ _))
  have k7_8 : g7 8 = .agg #[.int .i64 ((usplF tl ss (j + 1)).1), .int .i64 ((usplF tl ss (j + 1)).2)] := kt hg7 8 (upd_same _ _ _)
  have hbX : Below w.heap.size w X := hIX.1
  have hzX : W2.heap.size ≤ X.heap.size := hIX.2.1.size
  refine region_doI noOut_false (by kernel_rfl) 1 [(4, 0)] [[], [0]] (rel [bx 0 #[.int .i64 0, .int .i64 0] 43]) (by kernel_rfl) (by kernel_rfl) (by kernel_rfl) (by kernel_rfl)
   ⟨bx_k, trivial⟩
   ⟨fun f s W d k l m q a => opb rfl rfl (by simp [go_sem]), trivial⟩ ?_
  intro f21 s21 W21 hB21
  have fB21 := hB21.f hbX
  have z21 := hB21.below.size
  have q1' := (bwt (Below.refl X.heap.size X) hB21.below)
  obtain ⟨r21_0, br21_0⟩ := hB21.is 0
  have lr21_0 := hB21.lr 0 br21_0
  generalize hg21 : ov [(4, 0)] f21 g7 = g21
  have k21_2 := kt hg21 2 k7_2
  have k21_8 := kt hg21 8 k7_8
  have k21_4 := kt hg21 4 r21_0
  obtain ⟨W22, hW22⟩ : ∃ W', W' = W21.setRow (s21 0) #[.int .i64 ((usplF tl ss (j + 1)).1), .int .i64 ((usplF tl ss (j + 1)).2)] := ⟨_, rfl⟩
  refine tsk (o := _) rfl ⟨rfl, rfl⟩ (run_seg hW22 (fr_ev k21_4) (fr_ev k21_8) br21_0 rfl rfl rfl rfl) ?_
  obtain ⟨fB22, nb22, ot22, z22⟩ := sgf hW22 fB21 br21_0 (by omega)
  have q2' := (sgf hW22 q1' br21_0 (by omega)).1
  clear hW22
  refine wpe ?_
  have hbe_ := q2'
  refine hK _ _ hbe_ ?_
  subst hA
  exact ⟨_, rfl, k21_2, _, k21_4, nb22, by omega⟩
 case hbody =>
  intro l' j G_ a' X hj hIX hAX
  have hIX' := hIX
  subst hA
  obtain ⟨h1X, h2X, hPX⟩ := hIX
  obtain ⟨g7, rfl, k7_2, b10, k7_4, hb10, hV10⟩ := hAX
  have hzX := h2X.size
  have cb0 : X.heap[(s1 0)]? = some (.cells #[.int .i64 nu, .int .i64 de, .int .i64 tl, .slice ra n c] 128 (0, 0)) := h2X.block _ _ (by subst hG0; intro e_; rcases e_ with e_ | e_ <;> omega) b2_0
  have cl0 := ltb cb0
  subst hP
  obtain ⟨h3X, h4X⟩ := hPX
  have lb2_ := ltb h3X
  have hlw_ : w.heap.size ≤ (s1 1) := by omega
  have hGm_ : ∀ b, (b = (s1 1)) → G_ b := fun b hb => (h4X b).2 hb
  refine wpIn_block ?_
  refine region_doI (by repeat (first | refine noOut_then ?_ | refine noOut_block ?_ | exact fun ⟨_, _, e⟩ => nomatch e.1)) (by kernel_rfl) 1 [(9, 0)] [[], [0]] (rel [is (.agg #[.int .i64 ((usplF tl ss (j + 1)).1), .int .i64 ((usplF tl ss (j + 1)).2)])]) (by kernel_rfl) (by kernel_rfl) (by kernel_rfl) (by kernel_rfl)
   ⟨is_k, trivial⟩
   ⟨fun f s W d k l m q a => opv rfl rfl (by simp [go_sem, a.e 4 k7_4, cb hb10 d 0, cb hb10 d 1]) rfl, trivial⟩ ?_
  intro f61 s61 W61 hB61
  have fB61 := hB61.f h1X
  have z61 := hB61.below.size
  have b61_1 := hB61.b h3X
  have q3' := (KeepP.trans (KeepP.refl G_ X) (KeepP.of_below hB61.below))
  generalize hg61 : ov [(9, 0)] f61 g7 = g61
  have k61_2 := kt hg61 2 k7_2
  have k61_9 := kt hg61 9 (hB61.is 0)
  obtain ⟨W62, hW62⟩ : ∃ W', W' = W61.setRow (s1 1) #[.int .i64 ((usplF tl ss (j + 1)).1), .int .i64 ((usplF tl ss (j + 1)).2)] := ⟨_, rfl⟩
  refine tsk (o := _) rfl ⟨rfl, rfl⟩ (run_seg hW62 (fr_ev k61_2) (fr_ev k61_9) b61_1 rfl rfl rfl rfl) ?_
  obtain ⟨fB62, nb62, ot62, z62⟩ := sgf hW62 fB61 b61_1 (by omega)
  have q4' := (KeepP.trans q3' (keepX_P (keepX_row hW62) (by first | exact hGm_ _ rfl | exact hGm_ _ (.inl rfl) | exact hGm_ _ (.inr (.inl rfl)) | exact hGm_ _ (.inr (.inr rfl)) | omega)))
  clear hW62
  refine wpe ?_
  refine ibn ?_
  exact ⟨rfl, G_, ⟨fB62, h2X.trans (KeepP.more q4' fun b hb => by subst hG0; exact .inl ((h4X b).1 hb)), nb62, h4X⟩, q4', fun b hb => .inl hb⟩
 case hdone =>
  intro D G' Z hD hnD hIZ hdZ
  obtain ⟨h1Z, h2Z, hPZ⟩ := hIZ
  have eD : ({ (fr 11 g2) with defers := { target := .collected D, args := #[] } :: (fr 11 g2).defers } : Act) = frD [mkD D] 11 g2 := rfl
  rw [eD]
  have hzZ := h2Z.size
  have cz0 : Z.heap[(s1 0)]? = some (.cells #[.int .i64 nu, .int .i64 de, .int .i64 tl, .slice ra n c] 128 (0, 0)) := h2Z.block _ _ (by subst hG0; intro e_; rcases e_ with e_ | e_ <;> omega) b2_0
  have hMk_ := MarksOk.one hdZ
  subst hP
  obtain ⟨h3Z, h4Z⟩ := hPZ
  refine ibn ?_
  refine hK2 _ _ ?_
  refine wp_seq_k fun K4 hK4 => ?_
  refine region_doD 2 [(10, 0)] [[], [0]] (rel [is (.agg #[.int .i64 ((usplF tl ss n).1), .int .i64 ((usplF tl ss n).2)]),
   is (undef)]) (by kernel_rfl) (by kernel_rfl) (by kernel_rfl) (by kernel_rfl)
   ⟨is_k, is_k, trivial⟩
   ⟨fun f s W d k l m q a => opv rfl rfl (by simp [go_sem, a.e 2 k2_2, cb h3Z d 0, cb h3Z d 1]) rfl,
  fun f s W d k l m q a => ops_same rfl ⟨rfl, rfl⟩ (run_seg (setRow_self W _ _ _ _ (bwb h3Z d)).symm (a.v 2 k2_2) (a.v 10 (k 0 rfl)) (bwb h3Z d) rfl rfl rfl rfl), trivial⟩ ?_
  intro f3 s3 W3 hB3
  have fB3 := hB3.f h1Z
  have z3 := hB3.below.size
  have b3_1 := hB3.b h3Z
  have q5' := (MarksOk.below hMk_ hB3.below)
  refine hK4 _ _ ?_
  generalize hg3 : ov [(10, 0)] f3 g2 = g3
  have k3_2 := kt hg3 2 k2_2
  refine wp_ret ?_
  refine leave_marksC (v := .agg #[.int .i64 ((usplF tl ss n).1), .int .i64 ((usplF tl ss n).2)]) (Ds := [D]) (.inr rfl) rfl q5' (fun W_ hk_ => by simp [results, Try.results43, go_sem, frv 11 k3_2, cl (hk_.cellsM q5' b3_1) 0, cl (hk_.cellsM q5' b3_1) 1]) fun W_ hk_ => ?_
  have fBL := Below.trans fB3 (hk_.below (fun b hb => (by obtain rfl := List.mem_singleton.1 hb; omega)) (Below.size fB3))
  exact ⟨rfl, fBL⟩
end Go.Proofs.Ytcgccflcjejlhaa
