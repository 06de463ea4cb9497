/- Part of the proof: what the claim leans on. -/
import Derived.Test.YtcgccflcjejlhaaVAS
set_option maxHeartbeats 32000000
set_option maxRecDepth 100000
set_option linter.unusedSimpArgs false
set_option linter.unusedVariables false
namespace Go.Proofs.Ytcgccflcjejlhaa
open Go.RowKit
theorem forI_succ (f : Nat → Se → Se) (i c : Nat) (s : Se) : forI f i (c + 1) s = f (i + c) (forI f i c s) := rfl
theorem forR_succ (f : Int → Se → Se) (l : Int) (c : Nat) (s : Se) : forR f l (c + 1) s = f (l + (c : Int)) (forR f l c s) := rfl
theorem roomF_bd {os : Nat → To} {gs xs : List Int} {last : Bool} {n : Nat} (ho : ∀ i, i < n → ToIn (os i)) (hg : ∀ i, 0 ≤ elT gs i ∧ elT gs i ≤ 1000) (hx : ∀ i, 0 ≤ elT xs i ∧ elT xs i ≤ 4) : 1 ≤ (roomF os gs xs last n).1 ∧ (roomF os gs xs last n).1 ≤ 2000 ∧ -2000 ≤ (roomF os gs xs last n).2 ∧ (roomF os gs xs last n).2 ≤ 30 := by
  unfold roomF
  cases h : roomS os gs xs last n with
  | none => decide
  | some q => exact roomS_bd ho hg hx n (Nat.le_refl _) q.1 q.2 (by rw [h])
theorem try_s (p : Tp) (os : Nat → To) (bo oo no co : Nat) (al : Option Addr) (cl bl ol : Nat) (L : List (List Int)) (ad : Nat → Option Addr) (cp : Nat → Nat) (bs : Nat) {w : World} (hO : OrdR w bo oo no os) (hp : TpIn p) (ho : ∀ i, i < no → ToIn (os i)) (gno : no ≤ 4) (g1no : 1 ≤ no) (hL : LOk p os no L) (hLL : LLr w bl ol L ad cp) (hal : 0 < L.length → al = some ⟨bl, ol, none⟩) (hbs : w.heap.size ≤ bs) (m : Nat) (ih : TryIt p os bo oo no co al cl L ad cp bs w m) : TryIt p os bo oo no co al cl L ad cp bs w (m + 1) := by
 intro pl fr_ wa gs q0 ap np cp_ ag ng cg v1 hT hB0 hBx hRA hnp hncp hcp0 hG hgne
 obtain ⟨a0, c0, hbx, hbc, hbr⟩ := hBx
 have gng : ng = no := by rw [hG.1, hT.l]
 have lt_bs := ltb hbx
 have gw_ := hT.w
 have gu_ := hT.u
 have gf_ := hT.fr
 have gLl := hL.len
 obtain ⟨mi, hmi⟩ : ∃ x : Int, ((m + 1 : Nat) : Int) = x := ⟨_, rfl⟩
 rw [hmi]
 have hm0_ : decide (0 < mi) = true := decide_eq_true (by omega)
 have hm1_ : (mi == 0) = false := beq_eq_false_iff_ne.2 (by omega)
 have hm2_ : (mi == 1) = (m == 0) := by rw [Bool.eq_iff_iff, beq_iff_eq, beq_iff_eq]; omega
 obtain ⟨FI, hFI⟩ : ∃ f : Nat → Se → Se, f = fun i s => forR (fun r s => tryF p os no L m (pl ++ [(i, r)]) (i + 1) (wa + leftF p os (webL L i) no * r) (addK gs (webL L i) r no) s) (roomF os gs (webL L i) (m == 0) no).1 (runN (roomF os gs (webL L i) (m == 0) no) (m == 0)) s := ⟨_, rfl⟩
 refine calls_fr Try.func65 Try.ntmps65 rfl rfl fun g hg => ?_
 have k0 : g 0 = .pointer (some ⟨bs, 0, none⟩) := hg 0
 have k1 : g 1 = .slice ap np cp_ := hg 1
 have k2 : g 2 = .int .i64 ((fr_ : Int)) := hg 2
 have k3 : g 3 = .int .i64 mi := hg 3
 have k4 : g 4 = .int .i64 wa := hg 4
 have k5 : g 5 = .slice ag ng cg := hg 5
 clear hg
 refine wp_seq_k fun K1 hK1 => ?_
 refine rw_ 16 [(16, 0), (17, 1), (18, 2), (19, 3), (20, 4), (21, 5), (22, 6), (23, 7), (24, 8), (25, 9), (26, 10), (27, 11), (28, 12), (29, 13), (30, 14), (31, 15)] [[], [0], [1], [2], [3], [4], [4], [4, 6], [4, 7], [4, 8], [4, 5, 9], [4, 10], [11], [12], [12, 13], [12, 14]] (rel [is (.pointer (some ⟨bs, 0, none⟩)), is (.pointer (some ⟨bs, 0, none⟩)), is (.pointer (some ⟨bs, 8, none⟩)), iB q0.found, iB q0.found, gd (q0.found) true (iI wa), gd (q0.found) true (is (.pointer (some ⟨bs, 0, none⟩))), gd (q0.found) true (is (.pointer (some ⟨bs, 0, none⟩))), gd (q0.found) true (is (.pointer (some ⟨bs, 7, none⟩))), gd (q0.found) true (iI q0.waste), gd (q0.found) true (iB (decide (q0.waste ≤ wa))), iB ((q0.found) && (decide (q0.waste ≤ wa))), iB ((q0.found) && (decide (q0.waste ≤ wa))), gd ((q0.found) && (decide (q0.waste ≤ wa))) true (iI mi), gd ((q0.found) && (decide (q0.waste ≤ wa))) true (iB true), iB ((q0.found) && (decide (q0.waste ≤ wa)))])
  ⟨fun f s W y z A hz B a => opm (a.v 0 k0),
  fun f s W y z A hz B a => opv rfl rfl (by simp [go_sem, a.e 16 (z 0 rfl)]) rfl,
  fun f s W y z A hz B a => opv rfl rfl (by simp [go_sem, a.e 17 (z 1 rfl)]) rfl,
  fun f s W y z A hz B a => opv rfl rfl (by simp [go_sem, a.e 18 (z 2 rfl), cb hbx y 8]) rfl,
  fun f s W y z A hz B a => opm (a.v 19 (z 3 rfl)),
  fun f s W y z A hz B a => gdo rfl rfl (a.says (d := 20) rfl rfl (z 4 rfl)) fun hgd0 => gv (by simp [go_sem, a.e 4 k4]) rfl,
  fun f s W y z A hz B a => gdo rfl rfl (a.says (d := 20) rfl rfl (z 4 rfl)) fun hgd0 => gv (by simp [go_sem, a.e 0 k0]) rfl,
  fun f s W y z A hz B a => gdo rfl rfl (a.says (d := 20) rfl rfl (z 4 rfl)) fun hgd0 => gv (by simp [go_sem, a.e 22 ((z 6 rfl).1 hgd0)]) rfl,
  fun f s W y z A hz B a => gdo rfl rfl (a.says (d := 20) rfl rfl (z 4 rfl)) fun hgd0 => gv (by simp [go_sem, a.e 23 ((z 7 rfl).1 hgd0)]) rfl,
  fun f s W y z A hz B a => gdo rfl rfl (a.says (d := 20) rfl rfl (z 4 rfl)) fun hgd0 => gv (by simp [go_sem, a.e 24 ((z 8 rfl).1 hgd0), cb hbx y 7]) rfl,
  fun f s W y z A hz B a => gdo rfl rfl (a.says (d := 20) rfl rfl (z 4 rfl)) fun hgd0 => gv (by simp [go_sem, a.e 21 ((z 5 rfl).1 hgd0), a.e 25 ((z 9 rfl).1 hgd0)]) rfl,
  fun f s W y z A hz B a => opk (c := q0.found) rfl rfl (fun hpk => by simp [go_sem, hpk, a.e 20 (z 4 rfl)]) (fun hpk => by simp [go_sem, hpk, a.e 20 (z 4 rfl), a.e 26 ((z 10 rfl).1 hpk)]),
  fun f s W y z A hz B a => opm (a.v 27 (z 11 rfl)),
  fun f s W y z A hz B a => gdo rfl rfl (a.says (d := 28) rfl rfl (z 12 rfl)) fun hgd0 => gv (by simp [go_sem, a.e 3 k3]) rfl,
  fun f s W y z A hz B a => gdo rfl rfl (a.says (d := 28) rfl rfl (z 12 rfl)) fun hgd0 => gv (by simp [go_sem, a.e 29 ((z 13 rfl).1 hgd0), hm0_]) rfl,
  fun f s W y z A hz B a => opk (c := (q0.found) && (decide (q0.waste ≤ wa))) rfl rfl (fun hpk => by first | (simp [go_sem, hpk, a.e 28 (z 12 rfl)]; done) | (have hpk' := hpk; simp at hpk'; simp [go_sem, hpk', hpk, a.e 28 (z 12 rfl)])) (fun hpk => by first | (simp [go_sem, hpk, a.e 28 (z 12 rfl), a.e 30 ((z 14 rfl).1 hpk)]; done) | (have hpk' := hpk; simp at hpk'; simp [go_sem, hpk', hpk, a.e 28 (z 12 rfl), a.e 30 ((z 14 rfl).1 hpk)])), trivial⟩ ?_
 intro f1 s1 W1 hB1 g1 hg1 z1
 have b1_0 := hB1.b hbx
 have q1' := (KeepX.trans (KeepX.refl bs v1) (KeepX.of_below hB1.below))
 have q2' := (hbr.below hB1.below)
 have q3' := (hG.bw hB1)
 have q4' := (hRA.below hB1.below)
 have k1_3 := kt hg1 3 k3
 have k1_31 := kt hg1 31 (hB1.is 15)
 refine wp_cond_split (t := (q0.found) && (decide (q0.waste ≤ wa))) ((fr_eval rfl).trans k1_31) (fun hc3 => ?_) (fun hc3 => ?_)
 ·
  have hc3' := hc3; try simp only [ba] at hc3'
  have hc31_ := hc3
  refine wp_ret ?_
  refine then_ret ?_
  refine leave_gen (v := .tuple #[]) (.inr rfl) (by simp [results, Try.results65, go_sem]) ?_
  exact ⟨rfl, q1', by rw [tryF, if_pos hc31_]; exact ⟨a0, c0, b1_0, hbc, q2'⟩⟩
 ·
  have hc3' := hc3; try simp only [ba] at hc3'
  have hc31_ := hc3
  refine wp_skip ?_
  refine hK1 _ _ ?_
  refine wp_seq_k fun K4 hK4 => ?_
  refine rw_ 2 [(32, 0), (33, 1)] [[], [0]] (rel [iI mi, iB false])
   ⟨fun f s W y z A hz B a => opm (a.v 3 k1_3),
  fun f s W y z A hz B a => opv rfl rfl (by simp [go_sem, a.e 32 (z 0 rfl), hm1_]) rfl, trivial⟩ ?_
  intro f2 s2 W2 hB2 g2 hg2 z2
  have q5' := (KeepX.trans q1' (KeepX.of_below hB2.below))
  have q6' := (q2'.below hB2.below)
  have q7' := (q3'.bw hB2)
  have q8' := (q4'.below hB2.below)
  have k2_2 := kt hg2 2 (kt hg1 2 k2)
  have k2_33 := kt hg2 33 (hB2.is 1)
  refine wp_cond_false ((fr_eval rfl).trans k2_33) ?_
  refine wp_skip ?_
  refine hK4 _ _ ?_
  refine rw_ 2 [(68, 0), (12, 1)] [[], [0]] (rel [iI ((fr_ : Int)), iI ((fr_ : Int))])
   ⟨fun f s W y z A hz B a => opm (a.v 2 k2_2),
  fun f s W y z A hz B a => opm (a.v 68 (z 0 rfl)), trivial⟩ ?_
  intro f3 s3 W3 hB3 g3 hg3 z3
  have fB3 := hB3.f (hB2.f (hB1.f hB0))
  have b3_0 := hB3.b (hB2.b b1_0)
  have q9' := (KeepX.trans q5' (KeepX.of_below hB3.below))
  have q10' := (q6'.below hB3.below)
  have q11' := (q7'.bw hB3)
  have q12' := (q8'.below hB3.below)
  have k3_0 := kt hg3 0 (kt hg2 0 (kt hg1 0 k0))
  have k3_1 := kt hg3 1 (kt hg2 1 (kt hg1 1 k1))
  have k3_3 := kt hg3 3 (kt hg2 3 k1_3)
  have k3_4 := kt hg3 4 (kt hg2 4 (kt hg1 4 k4))
  have k3_5 := kt hg3 5 (kt hg2 5 (kt hg1 5 k5))
  have k3_12 := kt hg3 12 (hB3.is 1)
  refine wp_block ?_
  refine wp_loop_n (fun m_ a_ W_ => ∃ (g_ : Nat → Value) (k : Nat), a_ = fr 134 g_ ∧ m_ = L.length - (fr_ + k) ∧ g_ 0 = .pointer (some ⟨bs, 0, none⟩) ∧ g_ 1 = .slice ap np cp_ ∧ g_ 3 = .int .i64 mi ∧ g_ 4 = .int .i64 wa ∧ g_ 5 = .slice ag ng cg ∧ g_ 12 = .int .i64 ((fr_ + k : Nat) : Int) ∧ fr_ + k ≤ L.length ∧ Below w.heap.size w W_ ∧ KeepX bs v1 W_ ∧ BoxS p bo oo no co al cl L ad cp bs (forI FI fr_ k q0) W_) ⟨_, _, 0, rfl, rfl, k3_0, k3_1, k3_3, k3_4, k3_5, k3_12, hT.fr, fB3, q9', a0, c0, b3_0, hbc, q10'⟩ ?_
  rintro _ _ WL ⟨gL, k, rfl, rfl, kL_0, kL_1, kL_3, kL_4, kL_5, kL_12, hk, fBL, kxL, hBL⟩
  obtain ⟨i, hi⟩ : ∃ i, fr_ + k = i := ⟨_, rfl⟩
  rw [hi] at kL_12
  obtain ⟨q1, hq1⟩ : ∃ q, forI FI fr_ k q0 = q := ⟨_, rfl⟩
  rw [hq1] at hBL
  obtain ⟨a1, c1, hbL, hcL, hrL⟩ := hBL
  have lt_bsL := ltb hbL; have zvL := kxL.size
  have hRL := hRA.keepX kxL; have hGL := hG.keepX kxL hgne
  refine wp_seq_k fun K8 hK8 => ?_
  refine rw_ 7 [(69, 0), (70, 1), (71, 2), (72, 3), (73, 4), (74, 5), (75, 6)] [[], [], [1], [2], [3], [4], [0, 5]] (rel [iI ((i : Int)), is (.pointer (some ⟨bs, 0, none⟩)), is (.pointer (some ⟨bs, 0, none⟩)), is (.pointer (some ⟨bs, 5, none⟩)), is (.slice al (L.length) cl), iI ((L.length : Int)), iB (decide ((i : Int) < (L.length : Int)))])
   ⟨fun f s W y z A hz B a => opm (a.v 12 kL_12),
  fun f s W y z A hz B a => opm (a.v 0 kL_0),
  fun f s W y z A hz B a => opv rfl rfl (by simp [go_sem, a.e 70 (z 1 rfl)]) rfl,
  fun f s W y z A hz B a => opv rfl rfl (by simp [go_sem, a.e 71 (z 2 rfl)]) rfl,
  fun f s W y z A hz B a => opv rfl rfl (by simp [go_sem, a.e 72 (z 3 rfl), cb hbL y 5]) rfl,
  fun f s W y z A hz B a => opv rfl rfl (by simp [go_sem, a.e 73 (z 4 rfl)]) rfl,
  fun f s W y z A hz B a => opv rfl rfl (by simp [go_sem, a.e 69 (z 0 rfl), a.e 74 (z 5 rfl)]) rfl, trivial⟩ ?_
  intro f4 s4 W4 hB4 g4 hg4 z4
  have fB4 := hB4.f fBL
  have b4_0 := hB4.b hbL
  have q13' := (bwt (Below.refl WL.heap.size WL) hB4.below)
  have k4_0 := kt hg4 0 kL_0
  have k4_3 := kt hg4 3 kL_3
  have k4_5 := kt hg4 5 kL_5
  have k4_12 := kt hg4 12 kL_12
  have k4_75 := kt hg4 75 (hB4.is 6)
  refine wp_cond_split (t := decide ((i : Int) < (L.length : Int))) ((fr_eval rfl).trans k4_75) (fun hc10 => ?_) (fun hc10 => ?_)
  ·
   have hc10' := hc10; try simp only [ba] at hc10'
   have hil : i < L.length := by omega
   have hLn_ := hL.n i hil
   have hxin_ := hL.x i hil
   have hgx_ := getD_bd hxin_ (by decide)
   have hgg_ : ∀ j, 0 ≤ elT gs j ∧ elT gs j ≤ 1000 := fun j => by have := hT.g j; omega
   have hlt_ := hL.t i hil
   obtain ⟨lf_, hlf_⟩ : ∃ x, leftF p os (webL L i) no = x := ⟨_, rfl⟩
   rw [hlf_] at hlt_
   have hrb_ := roomF_bd (last := (m == 0)) ho hgg_ hgx_
   obtain ⟨rm_, hrm0_⟩ : ∃ x, roomF os gs (webL L i) (m == 0) no = x := ⟨_, rfl⟩
   rw [hrm0_] at hrb_
   have hrm_ : roomF os gs (webL L i) (m == 0) no = rm_ := hrm0_
   have hrm2_ : roomF os gs (webL L i) (m == 0) (webL L i).length = rm_ := by rw [hLn_]; exact hrm_
   obtain ⟨FR, hFR⟩ : ∃ f : Int → Se → Se, f = fun r s => tryF p os no L m (pl ++ [(i, r)]) (i + 1) (wa + lf_ * r) (addK gs (webL L i) r no) s := ⟨_, rfl⟩
   refine wp_skip ?_
   refine hK8 _ _ ?_
   refine wp_seq_k fun K11 hK11 => ?_
   refine wp_block ?_
   refine wp_seq_k fun K12 hK12 => ?_
   refine ry 13 [(78, 0), (79, 1), (80, 2), (81, 3), (82, 4), (83, 5), (84, 6), (85, 7), (86, 8), (87, 9), (88, 10), (89, 11), (13, 12)] [[], [], [], [2], [3], [4], [], [5, 6], [7], [], [9], [0, 1, 8, 10], [], [0, 1, 2, 3, 4, 5, 6, 7, 8, 9, 10, 11, 12]] (rel [is (.pointer (some ⟨bs, 0, none⟩)), is (.slice ag ng cg), is (.pointer (some ⟨bs, 0, none⟩)), is (.pointer (some ⟨bs, 0, none⟩)), is (.pointer (some ⟨bs, 5, none⟩)), is (.slice al (L.length) cl), iI ((i : Int)), is (.pointer (some ⟨bl, ol + i, none⟩)), is (.slice ((ad i)) ((webL L i).length) ((cp i))), iI mi, iB ((m == 0)), is (.agg #[.int .i64 rm_.1, .int .i64 rm_.2]), bx 12 #[.int .i64 0, .int .i64 0] 43])
    ⟨fun f s W y z A hz B a => opm (a.v 0 k4_0),
  fun f s W y z A hz B a => opm (a.v 5 k4_5),
  fun f s W y z A hz B a => opm (a.v 0 k4_0),
  fun f s W y z A hz B a => opv rfl rfl (by simp [go_sem, a.e 80 (z 2 rfl)]) rfl,
  fun f s W y z A hz B a => opv rfl rfl (by simp [go_sem, a.e 81 (z 3 rfl)]) rfl,
  fun f s W y z A hz B a => opv rfl rfl (by simp [go_sem, a.e 82 (z 4 rfl), cb b4_0 y 5]) rfl,
  fun f s W y z A hz B a => opm (a.v 12 k4_12),
  fun f s W y z A hz B a => by have hab := hal (by omega); have li_ := Nat.not_le.2 (show i < L.length by omega); have li2_ : (i : Int) < (L.length : Int) := (by omega); exact opv rfl rfl (by simp [go_sem, a.e 83 (z 5 rfl), a.e 84 (z 6 rfl), hab, li_, li2_]) rfl,
  fun f s W y z A hz B a => by have C := bwt fB4 y; have cu_ : W.cell? ⟨bl, ol + i, none⟩ = some (.slice (ad i) (webL L i).length (cp i)) := ((hLL.below C).2 i (by omega)).1; exact opv rfl rfl (by simp [go_sem, a.e 85 (z 7 rfl), cu_]) rfl,
  fun f s W y z A hz B a => opm (a.v 3 k4_3),
  fun f s W y z A hz B a => opv rfl rfl (by simp [go_sem, a.e 87 (z 9 rfl), hm2_]) rfl,
  fun f s W y z A hz B a => by have C := bwt fB4 y; exact opd (args := #[.pointer (some ⟨bs, 0, none⟩), .slice ag ng cg, .slice ((ad i)) ((webL L i).length) ((cp i)), .bool ((m == 0))]) rfl rfl (by simp [go_sem, a.e 78 (z 0 rfl), a.e 79 (z 1 rfl), a.e 86 (z 8 rfl), a.e 88 (z 10 rfl)]) (room_any p os bo oo no co al a1 L.length cl q1.best.length c1 q1.waste q1.found (m == 0) bs ag ng cg gs (ad i) (webL L i).length (cp i) (webL L i) W (hO.below C) ho gno (bwb b4_0 y) (hGL.below ((bwt q13' y)) (Nat.le_refl _)) ((hLL.below C).2 i (by omega)).2 gng hLn_ hgg_ hgx_) ((fun e W' h => by have h1 := h.1; rw [hrm2_] at h1; exact ⟨_, h1, h.2, rfl⟩)),
  fun f s W y z A hz B a => opb rfl rfl (by simp [go_sem]), trivial⟩ ?_
   intro f5 s5 W5 hB5 g5 hg5 z5
   have fB5 := hB5.f fB4
   have b5_0 := hB5.b b4_0
   have q14' := (hB5.f q13')
   obtain ⟨r5_12, br5_12⟩ := hB5.is 12
   have lr5_12 := hB5.lr 12 br5_12
   have k5_0 := kt hg5 0 k4_0
   have k5_1 := kt hg5 1 (kt hg4 1 kL_1)
   have k5_3 := kt hg5 3 k4_3
   have k5_4 := kt hg5 4 (kt hg4 4 kL_4)
   have k5_5 := kt hg5 5 k4_5
   have k5_12 := kt hg5 12 k4_12
   have k5_89 := kt hg5 89 (hB5.is 11)
   have k5_13 := kt hg5 13 r5_12
   obtain ⟨W6, hW6⟩ : ∃ W', W' = W5.setRow (s5 12) #[.int .i64 rm_.1, .int .i64 rm_.2] := ⟨_, rfl⟩
   refine tsk (o := _) rfl ⟨rfl, rfl⟩ (run_seg hW6 (fr_ev k5_13) (fr_ev k5_89) br5_12 rfl rfl rfl rfl) ?_
   obtain ⟨fB6, nb6, ot6, z6⟩ := sgf hW6 fB5 br5_12 (by omega)
   have q15' := (sgf hW6 q14' br5_12 (by omega)).1
   clear hW6
   have b6_0 := ot6 _ _ (by omega) b5_0
   refine wpe ?_
   refine hK12 _ _ ?_
   refine rw_ 3 [(90, 0), (91, 1), (14, 2)] [[], [0], [1]] (rel [is (.pointer (some ⟨(s5 12), 0, none⟩)), iI rm_.1, iI rm_.1])
    ⟨fun f s W y z A hz B a => opv rfl rfl (by simp [go_sem, a.e 13 k5_13]) rfl,
  fun f s W y z A hz B a => opv rfl rfl (by simp [go_sem, a.e 90 (z 0 rfl), cb nb6 y 0]) rfl,
  fun f s W y z A hz B a => opm (a.v 91 (z 1 rfl)), trivial⟩ ?_
   intro f7 s7 W7 hB7 g7 hg7 z7
   have fB7 := hB7.f fB6
   have b7_0 := hB7.b b6_0
   have b7_1 := hB7.b nb6
   have q16' := (hB7.f q15')
   have k7_0 := kt hg7 0 k5_0
   have k7_1 := kt hg7 1 k5_1
   have k7_3 := kt hg7 3 k5_3
   have k7_4 := kt hg7 4 k5_4
   have k7_5 := kt hg7 5 k5_5
   have k7_12 := kt hg7 12 k5_12
   have k7_13 := kt hg7 13 k5_13
   have k7_14 := kt hg7 14 (hB7.is 2)
   refine wp_block ?_
   obtain ⟨b13, hb13⟩ : ∃ b, (s5 12) = b := ⟨_, rfl⟩
   have hx13 : W7.heap[b13]? = some (.cells #[.int .i64 rm_.1, .int .i64 rm_.2] 43 (0, 0)) := hb13 ▸ b7_1
   have k13_ : g7 13 = .pointer (some ⟨b13, 0, none⟩) := hb13 ▸ k7_13
   have hne13 : b13 ≠ bs := by rw [← hb13]; omega
   refine wp_loop_n (fun m_ a_ W_ => ∃ (g_ : Nat → Value) (d : Nat), a_ = fr 134 g_ ∧ m_ = (rm_.2 - rm_.1 + 1).toNat - d ∧ g_ 0 = .pointer (some ⟨bs, 0, none⟩) ∧ g_ 1 = .slice ap np cp_ ∧ g_ 3 = .int .i64 mi ∧ g_ 4 = .int .i64 wa ∧ g_ 5 = .slice ag ng cg ∧ g_ 12 = .int .i64 (i : Int) ∧ g_ 13 = .pointer (some ⟨b13, 0, none⟩) ∧ g_ 14 = .int .i64 (rm_.1 + (d : Int)) ∧ d ≤ (rm_.2 - rm_.1 + 1).toNat ∧ (m = 0 → d = 0) ∧ Below w.heap.size w W_ ∧ KeepX bs v1 W_ ∧ W_.heap[b13]? = some (.cells #[.int .i64 rm_.1, .int .i64 rm_.2] 43 (0, 0)) ∧ BoxS p bo oo no co al cl L ad cp bs (forR FR rm_.1 d q1) W_) ⟨_, _, 0, rfl, rfl, k7_0, k7_1, k7_3, k7_4, k7_5, k7_12, k13_, k7_14.trans (by simp), Nat.zero_le _, fun _ => rfl, fB7, kxL.trans (KeepX.of_below q16'), hx13, a1, c1, b7_0, hcL, hrL.below q16'⟩ ?_
   rintro _ _ WI ⟨gI, d, rfl, rfl, kI_0, kI_1, kI_3, kI_4, kI_5, kI_12, kI_13, kI_14, hd_, hd0_, fBI, kxI, hbI13, hBI⟩
   obtain ⟨r_, hr_⟩ : ∃ r : Int, rm_.1 + (d : Int) = r := ⟨_, rfl⟩
   rw [hr_] at kI_14
   obtain ⟨q2, hq2⟩ : ∃ q, forR FR rm_.1 d q1 = q := ⟨_, rfl⟩
   rw [hq2] at hBI
   obtain ⟨a2, c2, hbI, hcI, hrI⟩ := hBI
   have lt_bsI := ltb hbI; have zvI := kxI.size; have lt_13 := ltb hbI13
   clear hRL hGL
   have hRL := hRA.keepX kxI; have hGL := hG.keepX kxI hgne
   refine wp_seq_k fun K14 hK14 => ?_
   refine rw_ 4 [(92, 0), (93, 1), (94, 2), (95, 3)] [[], [], [1], [0, 2]] (rel [iI r_, is (.pointer (some ⟨b13, 1, none⟩)), iI rm_.2, iB (decide (r_ ≤ rm_.2))])
    ⟨fun f s W y z A hz B a => opm (a.v 14 kI_14),
  fun f s W y z A hz B a => opv rfl rfl (by simp [go_sem, a.e 13 kI_13]) rfl,
  fun f s W y z A hz B a => opv rfl rfl (by simp [go_sem, a.e 93 (z 1 rfl), cb hbI13 y 1]) rfl,
  fun f s W y z A hz B a => opv rfl rfl (by simp [go_sem, a.e 92 (z 0 rfl), a.e 94 (z 2 rfl)]) rfl, trivial⟩ ?_
   intro f8 s8 W8 hB8 g8 hg8 z8
   have fB8 := hB8.f fBI
   have b8_0 := hB8.b hbI
   have b8_1 := hB8.b hbI13
   have q17' := (bwt (Below.refl WI.heap.size WI) hB8.below)
   have k8_0 := kt hg8 0 kI_0
   have k8_1 := kt hg8 1 kI_1
   have k8_3 := kt hg8 3 kI_3
   have k8_4 := kt hg8 4 kI_4
   have k8_5 := kt hg8 5 kI_5
   have k8_12 := kt hg8 12 kI_12
   have k8_13 := kt hg8 13 kI_13
   have k8_14 := kt hg8 14 kI_14
   have k8_95 := kt hg8 95 (hB8.is 3)
   refine wp_cond_split (t := decide (r_ ≤ rm_.2)) ((fr_eval rfl).trans k8_95) (fun hc16 => ?_) (fun hc16 => ?_)
   ·
    have hc16' := hc16; try simp only [ba] at hc16'
    have hrl_ : r_ ≤ rm_.2 := by omega
    have hmr_ := tr_mul hlt_ (show 0 ≤ r_ ∧ r_ ≤ 30 by omega)
    refine wp_skip ?_
    refine hK14 _ _ ?_
    refine wp_seq_k fun K17 hK17 => ?_
    refine wp_block ?_
    refine wp_seq_k fun K18 hK18 => ?_
    refine ry 10 [(98, 0), (99, 1), (100, 2), (101, 3), (102, 4), (103, 5), (104, 6), (105, 7), (106, 8), (15, 9)] [[], [0], [1], [2], [], [3, 4], [5], [], [6, 7], [], [0, 1, 2, 3, 4, 5, 6, 7, 8, 9]] (rel [is (.pointer (some ⟨bs, 0, none⟩)), is (.pointer (some ⟨bs, 0, none⟩)), is (.pointer (some ⟨bs, 5, none⟩)), is (.slice al (L.length) cl), iI ((i : Int)), is (.pointer (some ⟨bl, ol + i, none⟩)), is (.slice ((ad i)) ((webL L i).length) ((cp i))), iI r_, is (.agg #[.slice ((ad i)) ((webL L i).length) ((cp i)), .int .i64 r_]), bx 9 #[.slice none 0 0, .int .i64 0] 74])
     ⟨fun f s W y z A hz B a => opm (a.v 0 k8_0),
  fun f s W y z A hz B a => opv rfl rfl (by simp [go_sem, a.e 98 (z 0 rfl)]) rfl,
  fun f s W y z A hz B a => opv rfl rfl (by simp [go_sem, a.e 99 (z 1 rfl)]) rfl,
  fun f s W y z A hz B a => opv rfl rfl (by simp [go_sem, a.e 100 (z 2 rfl), cb b8_0 y 5]) rfl,
  fun f s W y z A hz B a => opm (a.v 12 k8_12),
  fun f s W y z A hz B a => by have hab := hal (by omega); have li_ := Nat.not_le.2 (show i < L.length by omega); have li2_ : (i : Int) < (L.length : Int) := (by omega); exact opv rfl rfl (by simp [go_sem, a.e 101 (z 3 rfl), a.e 102 (z 4 rfl), hab, li_, li2_]) rfl,
  fun f s W y z A hz B a => by have C := bwt fB8 y; have cu_ : W.cell? ⟨bl, ol + i, none⟩ = some (.slice (ad i) (webL L i).length (cp i)) := ((hLL.below C).2 i (by omega)).1; exact opv rfl rfl (by simp [go_sem, a.e 103 (z 5 rfl), cu_]) rfl,
  fun f s W y z A hz B a => opm (a.v 14 k8_14),
  fun f s W y z A hz B a => opv rfl rfl (by simp [go_sem, a.e 104 (z 6 rfl), a.e 105 (z 7 rfl)]) rfl,
  fun f s W y z A hz B a => opb rfl rfl (by simp [go_sem]), trivial⟩ ?_
    intro f9 s9 W9 hB9 g9 hg9 z9
    have fB9 := hB9.f fB8
    have b9_0 := hB9.b b8_0
    have b9_1 := hB9.b b8_1
    have q18' := (hB9.f q17')
    obtain ⟨r9_9, br9_9⟩ := hB9.is 9
    have lr9_9 := hB9.lr 9 br9_9
    have k9_0 := kt hg9 0 k8_0
    have k9_1 := kt hg9 1 k8_1
    have k9_3 := kt hg9 3 k8_3
    have k9_4 := kt hg9 4 k8_4
    have k9_5 := kt hg9 5 k8_5
    have k9_12 := kt hg9 12 k8_12
    have k9_13 := kt hg9 13 k8_13
    have k9_14 := kt hg9 14 k8_14
    have k9_106 := kt hg9 106 (hB9.is 8)
    have k9_15 := kt hg9 15 r9_9
    obtain ⟨W10, hW10⟩ : ∃ W', W' = W9.setRow (s9 9) #[.slice ((ad i)) ((webL L i).length) ((cp i)), .int .i64 r_] := ⟨_, rfl⟩
    refine tsk (o := _) rfl ⟨rfl, rfl⟩ (run_seg hW10 (fr_ev k9_15) (fr_ev k9_106) br9_9 rfl rfl rfl rfl) ?_
    obtain ⟨fB10, nb10, ot10, z10⟩ := sgf hW10 fB9 br9_9 (by omega)
    have q19' := (sgf hW10 q18' br9_9 (by omega)).1
    clear hW10
    have b10_0 := ot10 _ _ (by omega) b9_0
    have b10_1 := ot10 _ _ (by omega) b9_1
    refine wpe ?_
    refine hK18 _ _ ?_
    refine wp_seq_k fun K19 hK19 => ?_
    refine rz 24 [(107, 0), (108, 1), (109, 2), (110, 3), (111, 4), (112, 5), (113, 6), (114, 7), (115, 8), (116, 9), (117, 10), (118, 11), (119, 12), (120, 13), (121, 14), (122, 15), (123, 16), (124, 17), (125, 18), (126, 19), (127, 20), (128, 21), (129, 22), (130, 23), (131, 24)] [[], [], [1], [], [3], [1, 2, 3, 4], [], [6], [], [8], [], [], [11], [11, 12], [11, 12, 13], [], [15], [11, 12, 13, 14, 15, 16], [], [11, 12, 13, 14, 15, 16, 17, 18], [10, 11, 12, 13, 14, 15, 16, 17, 18, 19], [], [], [21, 22], [0, 1, 2, 3, 4, 5, 6, 7, 8, 9, 10, 11, 12, 13, 14, 15, 16, 17, 18, 19, 20, 21, 22, 23]] (rel [is (.pointer (some ⟨bs, 0, none⟩)), is (.slice ap np cp_), is (.slice ap np np), is (.agg #[.slice ((ad i)) ((webL L i).length) ((cp i)), .int .i64 r_]), row 4 1 #[.slice ((ad i)) ((webL L i).length) ((cp i)), .int .i64 r_] 74, ab fun v W => PlN (W10.heap.size) bs ((np + 1)) (plC L ad cp pl ++ [.slice ((ad i)) ((webL L i).length) ((cp i)), .int .i64 r_]) v W, iI ((i : Int)), iI ((i : Int) + 1), iI mi, iI ((m : Int)), iI wa, is (.pointer (some ⟨bs, 0, none⟩)), is (.pointer (some ⟨bs, 0, none⟩)), is (.pointer (some ⟨bs, 0, none⟩)), is (.agg #[.int .i64 p.wide, .int .i64 p.tlo, .int .i64 p.thi, .int .i64 p.webs, .slice (some ⟨bo, oo, none⟩) no co]), is (.pointer (some ⟨(s9 9), 0, none⟩)), is (.slice ((ad i)) ((webL L i).length) ((cp i))), iI lf_, iI r_, iI (lf_ * r_), iI (wa + (lf_ * r_)), is (.slice ag ng cg), is (.agg #[.slice ((ad i)) ((webL L i).length) ((cp i)), .int .i64 r_]), ab fun v W => NwIi W10.heap.size ((addK gs (webL L i) r_ no)) v W])
     ⟨is_k, is_k, is_k, is_k, row_k, ab_k fun v W W' hb h => (h.below hb), is_k, is_k, is_k, is_k, is_k, is_k, is_k, is_k, is_k, is_k, is_k, is_k, is_k, is_k, is_k, is_k, is_k, ab_k fun v W W' hb h => h.below hb, trivial⟩
     ⟨fun f s W y z A hz B a => opm (a.v 0 k9_0),
  fun f s W y z A hz B a => opm (a.v 1 k9_1),
  fun f s W y z A hz B a => opc (args := #[.slice ap np cp_]) rfl rfl (by simp [go_sem, a.e 108 (z 1 rfl)]) (clipS_any ap np cp_ W (RowA.ad hRL) hncp),
  fun f s W y z A hz B a => opv rfl rfl (by simp [go_sem, a.e 15 k9_15, cb nb10 y 0, cb nb10 y 1]) rfl,
  fun f s W y z A hz B a => opr rfl rfl (by simp [go_sem, a.e 110 (z 3 rfl)]),
  fun f s W y z A hz B a => by have C := bwt fB10 y; obtain ⟨v_, W_, r_, b_, i_⟩ := appClipS 66 (W := W) (bs := bs) (W10.heap.size) (hRL.below ((bwt q19' y))) (z 4 rfl).2 rfl rfl (by omega) (by have := y.size; omega) (by omega); exact opDo_value rfl rfl (run_appendOp (a.v 109 (z 2 rfl)) (a.v 111 (z 4 rfl).1) r_) b_ i_,
  fun f s W y z A hz B a => opm (a.v 12 k9_12),
  fun f s W y z A hz B a => opv rfl rfl (by simp [go_sem, a.e 113 (z 6 rfl), IntWalk.i64_in ((i : Int) + 1) (by omega)]) rfl,
  fun f s W y z A hz B a => opm (a.v 3 k9_3),
  fun f s W y z A hz B a => by have rn_ : mi - 1 = (m : Int) := (by omega); have rm_ := IntWalk.i64_in (m : Int) (by omega); exact opv rfl rfl (by simp [go_sem, a.e 115 (z 8 rfl), IntWalk.i64_in (mi - 1) (by omega), rn_, rm_]) rfl,
  fun f s W y z A hz B a => opm (a.v 4 k9_4),
  fun f s W y z A hz B a => opm (a.v 0 k9_0),
  fun f s W y z A hz B a => opv rfl rfl (by simp [go_sem, a.e 118 (z 11 rfl)]) rfl,
  fun f s W y z A hz B a => opv rfl rfl (by simp [go_sem, a.e 119 (z 12 rfl)]) rfl,
  fun f s W y z A hz B a => opv rfl rfl (by simp [go_sem, a.e 120 (z 13 rfl), cb b10_0 y 0, cb b10_0 y 1, cb b10_0 y 2, cb b10_0 y 3, cb b10_0 y 4]) rfl,
  fun f s W y z A hz B a => opv rfl rfl (by simp [go_sem, a.e 15 k9_15]) rfl,
  fun f s W y z A hz B a => opv rfl rfl (by simp [go_sem, a.e 122 (z 15 rfl), cb nb10 y 0]) rfl,
  fun f s W y z A hz B a => by have C := bwt fB10 y; exact opd (args := #[.agg #[.int .i64 p.wide, .int .i64 p.tlo, .int .i64 p.thi, .int .i64 p.webs, .slice (some ⟨bo, oo, none⟩) no co], .slice ((ad i)) ((webL L i).length) ((cp i))]) rfl rfl (by simp [go_sem, a.e 121 (z 14 rfl), a.e 123 (z 16 rfl)]) (trim_any p os bo oo no co (ad i) (webL L i).length (cp i) (webL L i) W (hO.below C) hp ho gno ((hLL.below C).2 i (by omega)).2 hxin_ (by omega)) ((fun e W' h => by have h1 := h.1; rw [hLn_, hlf_] at h1; exact ⟨_, h1, h.2, rfl⟩)),
  fun f s W y z A hz B a => opm (a.v 14 k9_14),
  fun f s W y z A hz B a => opv rfl rfl (by simp [go_sem, a.e 124 (z 17 rfl), a.e 125 (z 18 rfl), IntWalk.i64_in (lf_ * r_) (by omega)]) rfl,
  fun f s W y z A hz B a => opv rfl rfl (by simp [go_sem, a.e 117 (z 10 rfl), a.e 126 (z 19 rfl), IntWalk.i64_in (wa + (lf_ * r_)) (by omega)]) rfl,
  fun f s W y z A hz B a => opm (a.v 5 k9_5),
  fun f s W y z A hz B a => opv rfl rfl (by simp [go_sem, a.e 15 k9_15, cb nb10 y 0, cb nb10 y 1]) rfl,
  fun f s W y z A hz B a => by have C := bwt fB10 y; exact opd (args := #[.slice ag ng cg, .agg #[.slice ((ad i)) ((webL L i).length) ((cp i)), .int .i64 r_]]) rfl rfl (by simp [go_sem, a.e 128 (z 21 rfl), a.e 129 (z 22 rfl)]) (add_any ag ng cg gs (ad i) (webL L i).length (cp i) (webL L i) r_ W (hGL.below ((bwt q19' y)) (Nat.le_refl _)) ((hLL.below C).2 i (by omega)).2 (by omega) (by omega) hgg_ hgx_ (by omega)) ((fun e W' h => by obtain ⟨v, e1, ⟨g_, c_, e2, h3⟩, h2⟩ := h; rw [hLn_] at h3; exact ⟨_, e1, h2, ⟨g_, c_, by rw [e2, addK_len, ← hG.1], h3.ii, Nat.le_trans y.size h3.1, h3.2.1⟩⟩)), trivial⟩ ?_
    intro f11 s11 W11 hB11 g11 hg11 z11
    have fB11 := hB11.f fB10
    have b11_0 := hB11.b b10_0
    have b11_1 := hB11.b b10_1
    have q20' := (hB11.f q19')
    obtain ⟨r11_4, br11_4⟩ := hB11.is 4
    have lr11_4 := hB11.lr 4 br11_4
    obtain ⟨g21', c22', r11_5, q24', q23', q25', q26'⟩ := hB11.is 5
    obtain ⟨g27', c28', r11_23, q29', q30', q31'⟩ := hB11.is 23
    have k11_107 := kt hg11 107 (hB11.is 0)
    have k11_112 := kt hg11 112 r11_5
    have k11_114 := kt hg11 114 (hB11.is 7)
    have k11_116 := kt hg11 116 (hB11.is 9)
    have k11_127 := kt hg11 127 (hB11.is 20)
    have k11_130 := kt hg11 130 r11_23
    have hTn := hT.next hL (show i < L.length by omega) (show 0 ≤ r_ ∧ r_ ≤ 30 by omega)
    rw [hlf_] at hTn
    have hrow_ := q23'
    rw [← plC_snoc] at hrow_
    refine tail_call (o := _) (d := 131) rfl rfl rfl (by simp [go_sem, frv 134 k11_107, frv 134 k11_112, frv 134 k11_114, frv 134 k11_116, frv 134 k11_127, frv 134 k11_130]) (ih (pl ++ [(i, r_)]) (i + 1) (wa + lf_ * r_) (addK gs (webL L i) r_ no) q2 _ _ _ _ _ _ W11 hTn fB11 ⟨a2, c2, b11_0, hcI, hrI.below q20'⟩ hrow_ (by simp; omega) q24' (fun e => absurd e (Nat.succ_ne_zero _)) q29' (fun b o e => by cases e; omega)) ?_ (fun _ h => nomatch h.1) (fun _ _ h => nomatch h.1)
    rintro v_ W12 ⟨rv12, kx12, bx12⟩
    obtain rfl := Ending.returned.inj rv12
    have hb13_12 := kx12.block _ _ hne13 b11_1
    have fB12 := Below.trans fB11 (kx12.below hbs (fB11).size)
    have kv12 := (kxI.trans (KeepX.of_below q20')).trans kx12
    have eq12 : tryF p os no L m (pl ++ [(i, r_)]) (i + 1) (wa + lf_ * r_) (addK gs (webL L i) r_ no) q2 = forR FR rm_.1 (d + 1) q1 := by rw [forR_succ, hr_, hq2, hFR]
    rw [eq12] at bx12
    generalize hg12 : upd g11 131 (.tuple #[]) = g12
    have k12_0 := ku hg12 0 (kt hg11 0 k9_0)
    have k12_1 := ku hg12 1 (kt hg11 1 k9_1)
    have k12_3 := ku hg12 3 (kt hg11 3 k9_3)
    have k12_4 := ku hg12 4 (kt hg11 4 k9_4)
    have k12_5 := ku hg12 5 (kt hg11 5 k9_5)
    have k12_12 := ku hg12 12 (kt hg11 12 k9_12)
    have k12_13 := ku hg12 13 (kt hg11 13 k9_13)
    have k12_14 := ku hg12 14 (kt hg11 14 k9_14)
    refine wpe ?_
    refine hK19 _ _ ?_
    refine rw_ 2 [(132, 0), (133, 1)] [[], [0]] (rel [iI mi, iB ((m == 0))])
     ⟨fun f s W y z A hz B a => opm (a.v 3 k12_3),
  fun f s W y z A hz B a => opv rfl rfl (by simp [go_sem, a.e 132 (z 0 rfl), hm2_]) rfl, trivial⟩ ?_
    intro f13 s13 W13 hB13 g13 hg13 z13
    have fB13 := hB13.f fB12
    have b13_0 := hB13.b hb13_12
    have q32' := (KeepX.trans kv12 (KeepX.of_below hB13.below))
    have q33' := (bx12.below hB13.below)
    have k13_0 := kt hg13 0 k12_0
    have k13_1 := kt hg13 1 k12_1
    have k13_3 := kt hg13 3 k12_3
    have k13_4 := kt hg13 4 k12_4
    have k13_5 := kt hg13 5 k12_5
    have k13_12 := kt hg13 12 k12_12
    have k13_13 := kt hg13 13 k12_13
    have k13_14 := kt hg13 14 k12_14
    have k13_133 := kt hg13 133 (hB13.is 1)
    refine wp_cond_split (t := (m == 0)) ((fr_eval rfl).trans k13_133) (fun hc21 => ?_) (fun hc21 => ?_)
    ·
     have hc21' := hc21; try simp only [ba] at hc21'
     have hm0e_ : m = 0 := by simpa using hc21
     refine wp_exit ?_
     refine inBlock_other rfl ?_
     refine then_exit ?_
     refine then_exit ?_
     refine inBlock_at ?_
     refine ibn ?_
     refine hK11 _ _ ?_
     refine ry 3 [(76, 0), (77, 1), (12, 2)] [[], [0], [0, 1]] (rel [iI ((i : Int)), iI ((i : Int) + 1), iI ((i : Int) + 1)])
      ⟨fun f s W y z A hz B a => opm (a.v 12 ((hz 2 12 rfl rfl).trans k13_12)),
  fun f s W y z A hz B a => opv rfl rfl (by simp [go_sem, a.e 76 (z 0 rfl), IntWalk.i64_in ((i : Int) + 1) (by omega)]) rfl,
  fun f s W y z A hz B a => opm (a.v 77 (z 1 rfl)), trivial⟩ ?_
     intro f14 s14 W14 hB14 g14 hg14 z14
     have fB14 := hB14.f fB13
     have q34' := (KeepX.trans q32' (KeepX.of_below hB14.below))
     have q35' := (q33'.below hB14.below)
     refine wpe ?_
     have k14_0 := kt hg14 0 k13_0
     have k14_1 := kt hg14 1 k13_1
     have k14_3 := kt hg14 3 k13_3
     have k14_4 := kt hg14 4 k13_4
     have k14_5 := kt hg14 5 k13_5
     have k14_12 := kt hg14 12 (hB14.is 2)
     refine then_normal ?_
     have hrn_ : runN rm_ (m == 0) = d + 1 := by have hz := hd0_ hm0e_; have hb : (m == 0) = true := (by simp [hm0e_]); rw [hb, runN, if_pos rfl]; omega
     exact ⟨_, by omega, g14, k + 1, rfl, rfl, k14_0, k14_1, k14_3, k14_4, k14_5, k14_12.trans (by rw [← hi]; rfl), by omega, fB14, q34', (by rw [forI_succ, hi, hq1, hFI]; simp only [hrm_, hrn_, hlf_]; rw [← hFR]; exact q35')⟩
    ·
     have hc21' := hc21; try simp only [ba] at hc21'
     have hmne_ : m ≠ 0 := by simpa using hc21
     refine wp_skip ?_
     refine ibn ?_
     refine hK17 _ _ ?_
     refine ry 3 [(96, 0), (97, 1), (14, 2)] [[], [0], [0, 1]] (rel [iI r_, iI (r_ + 1), iI (r_ + 1)])
      ⟨fun f s W y z A hz B a => opm (a.v 14 ((hz 2 14 rfl rfl).trans k13_14)),
  fun f s W y z A hz B a => opv rfl rfl (by simp [go_sem, a.e 96 (z 0 rfl), IntWalk.i64_in (r_ + 1) (by omega)]) rfl,
  fun f s W y z A hz B a => opm (a.v 97 (z 1 rfl)), trivial⟩ ?_
     intro f15 s15 W15 hB15 g15 hg15 z15
     have fB15 := hB15.f fB13
     have b15_0 := hB15.b b13_0
     have q36' := (KeepX.trans q32' (KeepX.of_below hB15.below))
     have q37' := (q33'.below hB15.below)
     refine wpe ?_
     have k15_0 := kt hg15 0 k13_0
     have k15_1 := kt hg15 1 k13_1
     have k15_3 := kt hg15 3 k13_3
     have k15_4 := kt hg15 4 k13_4
     have k15_5 := kt hg15 5 k13_5
     have k15_12 := kt hg15 12 k13_12
     have k15_13 := kt hg15 13 k13_13
     have k15_14 := kt hg15 14 (hB15.is 2)
     refine then_normal ?_
     exact ⟨_, by omega, g15, d + 1, rfl, rfl, k15_0, k15_1, k15_3, k15_4, k15_5, k15_12, k15_13, k15_14.trans (by rw [← hr_, Int.add_assoc]; rfl), by omega, fun e => absurd e hmne_, fB15, q36', b15_0, q37'⟩
   ·
    have hc16' := hc16; try simp only [ba] at hc16'
    have hrg_ : rm_.2 < r_ := by omega
    refine wp_exit ?_
    refine then_exit ?_
    refine then_exit ?_
    refine inBlock_at ?_
    refine ibn ?_
    refine hK11 _ _ ?_
    refine ry 3 [(76, 0), (77, 1), (12, 2)] [[], [0], [0, 1]] (rel [iI ((i : Int)), iI ((i : Int) + 1), iI ((i : Int) + 1)])
     ⟨fun f s W y z A hz B a => opm (a.v 12 ((hz 2 12 rfl rfl).trans k8_12)),
  fun f s W y z A hz B a => opv rfl rfl (by simp [go_sem, a.e 76 (z 0 rfl), IntWalk.i64_in ((i : Int) + 1) (by omega)]) rfl,
  fun f s W y z A hz B a => opm (a.v 77 (z 1 rfl)), trivial⟩ ?_
    intro f16 s16 W16 hB16 g16 hg16 z16
    have fB16 := hB16.f fB8
    have b16_0 := hB16.b b8_0
    have q38' := (hB16.f q17')
    refine wpe ?_
    have k16_0 := kt hg16 0 k8_0
    have k16_1 := kt hg16 1 k8_1
    have k16_3 := kt hg16 3 k8_3
    have k16_4 := kt hg16 4 k8_4
    have k16_5 := kt hg16 5 k8_5
    have k16_12 := kt hg16 12 (hB16.is 2)
    refine then_normal ?_
    have hrn_ : runN rm_ (m == 0) = d := by rcases Nat.eq_zero_or_pos m with hm_ | hm_; (have hz := hd0_ hm_; have hb : (m == 0) = true := by simp [hm_]); (rw [hb, runN, if_pos rfl]; omega); have hb : (m == 0) = false := (by simp; omega); rw [hb, runN, if_neg (by decide)]; omega
    exact ⟨_, by omega, g16, k + 1, rfl, rfl, k16_0, k16_1, k16_3, k16_4, k16_5, k16_12.trans (by rw [← hi]; rfl), by omega, fB16, kxI.trans (KeepX.of_below q38'), (by rw [forI_succ, hi, hq1, hFI]; simp only [hrm_, hrn_, hlf_]; rw [← hFR, hq2]; exact ⟨a2, c2, b16_0, hcI, hrI.below q38'⟩)⟩
  ·
   have hc10' := hc10; try simp only [ba] at hc10'
   have hie : i = L.length := by omega
   refine wp_exit ?_
   refine then_exit ?_
   refine then_exit ?_
   refine inBlock_at ?_
   refine leave_gen (v := .tuple #[]) (.inl rfl) (by simp [results, Try.results65, go_sem]) ?_
   exact ⟨rfl, kxL.trans (KeepX.of_below q13'), by rw [tryF, if_neg (by rw [hc31_]; exact Bool.false_ne_true), ← hFI, show L.length - fr_ = k by omega, hq1]; exact ⟨a1, c1, b4_0, hcL, hrL.below q13'⟩⟩
end Go.Proofs.Ytcgccflcjejlhaa
