/- Part of the proof: what the claim leans on. -/
import Derived.Test.YthnediamopehfaaGreatVLEL6
set_option maxHeartbeats 2000000
set_option maxRecDepth 100000
set_option linter.unusedSimpArgs false
set_option linter.unusedVariables false
namespace Go.Proofs.YthnediamopehfaaGreat
theorem spanR_eq (lo hi least most : Int) : spanR lo hi least most = isSpan (lo, hi) least most := by
  unfold spanR isSpan within inB
  rw [Bool.eq_iff_iff]
  simp
  omega
theorem isSpan_iff {lo hi : Int} : isSpan (lo, hi) 1 10000 = true ↔ 1 ≤ lo ∧ lo ≤ hi ∧ hi ≤ 10000 := by
  rw [← spanR_eq]; unfold spanR inB; simp [and_assoc]
open Go.RowKit
def ShIn (x : Sh) : Prop :=
  (0 ≤ x.x0 ∧ x.x0 ≤ 255) ∧ (0 ≤ x.x1 ∧ x.x1 ≤ 255) ∧ (0 ≤ x.x2 ∧ x.x2 ≤ 255) ∧ (0 ≤ x.x3 ∧ x.x3 ≤ 255) ∧ (0 ≤ x.xh ∧ x.xh ≤ 255) ∧ (0 ≤ x.y0 ∧ x.y0 ≤ 255) ∧ (0 ≤ x.y1 ∧ x.y1 ≤ 255) ∧ (0 ≤ x.y2 ∧ x.y2 ≤ 255) ∧ (0 ≤ x.y3 ∧ x.y3 ≤ 255) ∧
    (0 ≤ x.ca ∧ x.ca ≤ 255) ∧ (0 ≤ x.cb ∧ x.cb ≤ 255) ∧ (0 ≤ x.v0 ∧ x.v0 ≤ 255) ∧ (0 ≤ x.v1 ∧ x.v1 ≤ 255) ∧ (0 ≤ x.v2 ∧ x.v2 ≤ 255) ∧ (0 ≤ x.v3 ∧ x.v3 ≤ 255) ∧ (0 ≤ x.v4 ∧ x.v4 ≤ 255)
theorem check_ok {tab p0 p1 p2 p3 hh t0 t1 u0 u1 sl : Int} {op : Bool} (gt : 0 ≤ tab ∧ tab ≤ 100) (gs : 0 ≤ sl ∧ sl ≤ 20) (gh : 1 ≤ hh ∧ hh ≤ 3000) (g0 : 1 ≤ p0 ∧ p0 ≤ 3000) (g1 : 1 ≤ p1 ∧ p1 ≤ 3000) (g2 : 1 ≤ p2 ∧ p2 ≤ 3000) (g3 : 1 ≤ p3 ∧ p3 ≤ 3000)
    (t0' : 0 ≤ t0 ∧ t0 ≤ 3000) (t1' : 0 ≤ t1 ∧ t1 ≤ 3000) (u0' : 0 ≤ u0 ∧ u0 ≤ 3000) (u1' : 0 ≤ u1 ∧ u1 ≤ 3000) (ho : op = true → t0 = 0 ∧ t1 = 0) : checkErr ⟨tab, [p0, p1, p2, p3], hh, [t0, t1], [u0, u1], sl, op⟩ = 0 := by
  unfold checkErr
  rw [if_neg, if_neg, if_neg]
  · simp only [Bool.and_eq_true, Bool.not_eq_true', not_and, Bool.not_eq_false, within]
    intro h
    obtain ⟨rfl, rfl⟩ := ho h
    decide
  · simp [numsOk, within, areLong]; omega
  · simp [lensOk]
theorem shBl_ok {x : Sh} (h : ShIn x) : checkErr (shBl x) = 0 := by
  obtain ⟨h0, h1, h2, h3, hh, a0, a1, a2, a3, -⟩ := h
  refine check_ok (by omega) (by omega) (by omega) (by omega) (by omega) (by omega) (by omega) ?_ ?_ (by omega) (by omega) fun e => by simp [e]
  · split <;> omega
  · split <;> omega
theorem twin_ok {b : Bl} (h : checkErr b = 0) : checkErr (twinB b) = 0 := by
  obtain ⟨⟨-, -, hl⟩, gt, gs, gh, ⟨gp0, gp1, gp2, gp3⟩, gt0, gt1, gu0, gu1⟩ := good_nums h
  obtain ⟨tab, p, hh, t, u, sl, op⟩ := b
  obtain ⟨u0, u1, rfl⟩ := list_two hl
  simp only [List.getD_cons_zero, List.getD_cons_succ] at gu0 gu1
  unfold twinB
  cases op with
  | true => exact check_ok gt gs gh gp0 gp1 gp0 gp1 (by omega) (by omega) gu0 gu1 fun _ => ⟨rfl, rfl⟩
  | false => exact check_ok gt gs gh gp0 gp1 gp0 gp1 gu0 gu1 gu0 gu1 nofun
theorem limS_ok {s : Sp} {least most : Int} (h : s.1 ≤ s.2) (hl : least ≤ most) : isSpan (limS s least most) least most = true := by
  unfold limS isSpan within
  simp only [List.any_cons, List.any_nil, Bool.or_false, Bool.and_eq_true, Bool.not_eq_true', Bool.or_eq_false_iff, decide_eq_false_iff_not, decide_eq_true_eq]
  omega
theorem around_le {lo hi wd : Int} (h : lo ≤ hi) (hw : 0 ≤ wd) : (aroundS lo hi wd).1 ≤ (aroundS lo hi wd).2 := by
  unfold aroundS dn upw; simp only; omega
theorem micros_le (b : Bl) {lo hi : Int} (h : lo ≤ hi) (k : Nat) : (microsOf b hi).getD k 0 ≤ (microsOf b lo).getD k 0 := by
  unfold microsOf
  match k with
  | 0 => simp only [List.getD_cons_zero]; omega
  | 1 => simp only [List.getD_cons_zero, List.getD_cons_succ]; omega
  | 2 => simp only [List.getD_cons_zero, List.getD_cons_succ]; omega
  | 3 => simp only [List.getD_cons_zero, List.getD_cons_succ]; omega
  | 4 => simp only [List.getD_cons_zero, List.getD_cons_succ]; split <;> omega
  | 5 => simp only [List.getD_cons_zero, List.getD_cons_succ]; omega
  | 6 => simp only [List.getD_cons_zero, List.getD_cons_succ]; omega
  | 7 => simp only [List.getD_cons_zero, List.getD_cons_succ]; omega
  | 8 => simp only [List.getD_cons_zero, List.getD_cons_succ]; omega
  | n + 9 => simp [List.getD_eq_getElem?_getD]
theorem wish_ok (x : Sh) (b : Bl) {lo hi : Int} (h : lo ≤ hi) : wishErr (wishOf x b lo hi) = 0 := by
  unfold wishErr wishOf
  simp only
  rw [limS_ok (around_le (micros_le b h 0) (by omega)) (by decide), limS_ok (around_le (micros_le b h 1) (by omega)) (by decide), limS_ok (around_le (micros_le b h 4) (by omega)) (by decide), limS_ok (around_le (micros_le b h 7) (by omega)) (by decide), limS_ok (around_le (micros_le b h 8) (by omega)) (by decide)]
  rfl
theorem wished_ok {b : Bl} {w : Wi} {lo hi : Int} (h1 : checkErr b = 0) (h2 : wishErr w = 0) (h3 : 1 ≤ lo) (h4 : lo ≤ hi) (h5 : hi ≤ 10000) : wishedErr b w [(lo, hi)] = 0 := by
  unfold wishedErr checkedErr
  rw [if_pos h1, if_pos h2]
  have : isSpan (lo, hi) 1 10000 = true := by
    unfold isSpan within
    simp only [List.any_cons, List.any_nil, Bool.or_false, Bool.and_eq_true, Bool.not_eq_true', Bool.or_eq_false_iff, decide_eq_false_iff_not, decide_eq_true_eq]
    omega
  simp [this]
theorem bad_none {b : Bl} {w : Wi} {lo hi : Int} (h : lo ≤ hi) {k : Nat} : badOf b w (lo, hi) k = none ↔ (holdsOf b w k).1 ≤ lo ∧ hi ≤ (holdsOf b w k).2 := by
  unfold badOf
  simp only
  by_cases h1 : (holdsOf b w k).1 ≤ lo ∧ lo ≤ (holdsOf b w k).2
  · rw [if_pos h1]
    by_cases h2 : (holdsOf b w k).2 + 1 ≤ hi
    · rw [if_pos h2]; simp; omega
    · rw [if_neg h2]; simp; omega
  · rw [if_neg h1, if_pos h]; simp; omega
theorem mem_close {b : Bl} {w : Wi} {s : Sp} {x : Int × Int} : x ∈ closeL b w s ↔ ∃ k, k < 10 ∧ badOf b w s k = some x := by
  unfold closeL closeTo
  rw [List.mem_filterMap]
  simp [List.mem_range]
theorem close_nil {b : Bl} {w : Wi} {lo hi : Int} (h : lo ≤ hi) : closeL b w (lo, hi) = [] ↔ ∀ k, k < 10 → (holdsOf b w k).1 ≤ lo ∧ hi ≤ (holdsOf b w k).2 := by
  rw [List.eq_nil_iff_forall_not_mem]
  constructor
  · intro h1 k hk
    refine (bad_none h).1 ?_
    cases e : badOf b w (lo, hi) k with
    | none => rfl
    | some x => exact absurd (mem_close.2 ⟨k, hk, e⟩) (h1 x)
  · intro h1 x hx
    obtain ⟨k, hk, e⟩ := mem_close.1 hx
    rw [(bad_none h).2 (h1 k hk)] at e
    cases e
theorem shCal_in {x : Sh} (h : ShIn x) : 1 ≤ (shCal x).1 ∧ (shCal x).1 ≤ (shCal x).2 ∧ (shCal x).2 ≤ 10000 := by
  obtain ⟨-, -, -, -, -, -, -, -, -, a, b, -⟩ := h
  unfold shCal; simp only; omega
open Go.RowKit
theorem osure {P : Program} {ops : Array Oper} {Q : Exit → Act → World → Prop} {i j : Nat} {want : Bool} {a : Act} {W : World} {r : Value → World → Prop} {o : Oper} (ho : ops[i]? = some o) (hg : o.guard = some (j, want)) (hy : yielded ops a.tmps j = some want)
    (h : ∀ K : Act → World → Prop, (∀ v W', Below W.heap.size W W' → r v W' → K (a.put o.dst v) W') → o.wp P a W K Q) : OpDo P ops Q i a W r := by
  intro K hK
  unfold wpOp
  simp only [ho, Region.wanted, hg, hy]
  rw [ho] at hK
  rw [if_pos (by simp)]
  exact .inl (h K hK)
open Go.RowKit
theorem copy_own (a1 a2 a3 : Option Addr) (c1 c2 c3 : Nat) (tab p0 p1 p2 p3 hh t0 t1 u0 u1 sl : Int) (op : Bool) (w : World) (h1 : Ii w a1 4 c1 [p0, p1, p2, p3]) (h2 : Ii w a2 2 c2 [t0, t1]) (h3 : Ii w a3 2 c3 [u0, u1]) :
  Calls Tryz.prog 48 #[.agg #[.int .i64 tab, .slice a1 4 c1, .int .i64 hh, .slice a2 2 c2, .slice a3 2 c3, .int .i64 sl, .bool op]] w (OwBlkP ⟨tab, [p0, p1, p2, p3], hh, [t0, t1], [u0, u1], sl, op⟩ w) := by
 refine calls_fr Tryz.func48 Tryz.ntmps48 rfl rfl fun g hg => ?_
 have k0 : g 0 = .agg #[.int .i64 tab, .slice a1 4 c1, .int .i64 hh, .slice a2 2 c2, .slice a3 2 c3, .int .i64 sl, .bool op] := hg 0
 clear hg
 have fB0 : Below w.heap.size w w := Below.refl _ _
 refine rw_ 2 [(1, 0), (2, 1)] [[], []] (rel [bx 0 #[.int .i64 tab, .slice a1 4 c1, .int .i64 hh, .slice a2 2 c2, .slice a3 2 c3, .int .i64 sl, .bool op] 24, bx 1 #[.int .i64 0, .slice none 0 0, .int .i64 0, .slice none 0 0, .slice none 0 0, .int .i64 0, .bool false] 24])
  ⟨fun f s W c d i j l a => opb rfl rfl (by simp [go_sem, a.e 0 k0]),
  fun f s W c d i j l a => opb rfl rfl (by simp [go_sem]), trivial⟩ ?_
 intro f1 s1 W1 hB1 g1 hg1 z1
 have fB1 := hB1.f fB0
 obtain ⟨r1_0, br1_0⟩ := hB1.is 0
 have lr1_0 := hB1.lr 0 br1_0
 obtain ⟨r1_1, br1_1⟩ := hB1.is 1
 have lr1_1 := hB1.lr 1 br1_1
 have ne1_0_1 := hB1.nb 0 1
 have k1_1 := kt hg1 1 r1_0
 refine wp_seq_k fun K2 hK2 => ?_
 refine rz 13 [(3, 0), (4, 1), (5, 2), (6, 3), (7, 4), (8, 5), (9, 6), (10, 7), (11, 8), (12, 9), (13, 10), (14, 11), (15, 12), (16, 14), (17, 16)] [[], [], [1], [0, 2], [], [], [5], [4, 6], [], [], [9], [4, 7, 8, 10], [], [0, 1, 2, 3, 4, 5, 6, 7, 8, 9, 10, 11, 12], [0, 1, 2, 3, 4, 5, 6, 7, 8, 9, 10, 11, 12, 13], [0, 1, 2, 3, 4, 5, 6, 7, 8, 9, 10, 11, 12, 13, 14], [0, 1, 2, 3, 4, 5, 6, 7, 8, 9, 10, 11, 12, 13, 14, 15], [0, 1, 2, 3, 4, 5, 6, 7, 8, 9, 10, 11, 12, 13, 14, 15, 16]] (rel [row 0 0 #[] 3, is (.pointer (some ⟨(s1 0), 1, none⟩)), is (.slice a1 4 c1), fun v s W => OwI (s 3) ([p0, p1, p2, p3]) 4 v W, row 4 0 #[] 3, is (.pointer (some ⟨(s1 0), 3, none⟩)), is (.slice a2 2 c2), fun v s W => OwI (s 7) ([t0, t1]) 2 v W, row 8 0 #[] 3, is (.pointer (some ⟨(s1 0), 4, none⟩)), is (.slice a3 2 c3), fun v s W => OwI (s 11) ([u0, u1]) 2 v W, is (.pointer (some ⟨(s1 0), 1, none⟩))])
  ⟨row_k, is_k, is_k, ⟨fun v k W W' hb h => h.below hb, fun v s s' W e h => by have h' : OwI (s 3) ([p0, p1, p2, p3]) 4 v W := h; show OwI (s' 3) ([p0, p1, p2, p3]) 4 v W; rw [← e 3 (by simp)]; exact h'⟩, row_k, is_k, is_k, ⟨fun v k W W' hb h => h.below hb, fun v s s' W e h => by have h' : OwI (s 7) ([t0, t1]) 2 v W := h; show OwI (s' 7) ([t0, t1]) 2 v W; rw [← e 7 (by simp)]; exact h'⟩, row_k, is_k, is_k, ⟨fun v k W W' hb h => h.below hb, fun v s s' W e h => by have h' : OwI (s 11) ([u0, u1]) 2 v W := h; show OwI (s' 11) ([u0, u1]) 2 v W; rw [← e 11 (by simp)]; exact h'⟩, is_k, trivial⟩
  ⟨fun f s W c d i j l a => opr rfl rfl (by simp [go_sem]),
  fun f s W c d i j l a => opv rfl rfl (by simp [go_sem, a.e 1 k1_1]) rfl,
  fun f s W c d i j l a => opv rfl rfl (by simp [go_sem, a.e 4 (d 1 rfl), cb br1_0 c 1]) rfl,
  fun f s W c d i j l a => by have m := bwt fB1 c; obtain ⟨v_, W_, r_, b_, i_⟩ := cloneO_run 22 W (s 0) (a1) (c1) ([p0, p1, p2, p3]) 4 ((h1.below m (Nat.le_refl _))) ((by decide)) ((by decide)) (d 0 rfl).2; exact opDo_value rfl rfl (run_appendOp (a.v 3 (d 0 rfl).1) (a.v 5 (d 2 rfl)) r_) b_ (show OwI (upd s 3 W.heap.size 3) ([p0, p1, p2, p3]) 4 v_ W_ from by rw [upd_at]; exact i_),
  fun f s W c d i j l a => opr rfl rfl (by simp [go_sem]),
  fun f s W c d i j l a => opv rfl rfl (by simp [go_sem, a.e 1 k1_1]) rfl,
  fun f s W c d i j l a => opv rfl rfl (by simp [go_sem, a.e 8 (d 5 rfl), cb br1_0 c 3]) rfl,
  fun f s W c d i j l a => by have m := bwt fB1 c; obtain ⟨v_, W_, r_, b_, i_⟩ := cloneO_run 22 W (s 4) (a2) (c2) ([t0, t1]) 2 ((h2.below m (Nat.le_refl _))) ((by decide)) ((by decide)) (d 4 rfl).2; exact opDo_value rfl rfl (run_appendOp (a.v 7 (d 4 rfl).1) (a.v 9 (d 6 rfl)) r_) b_ (show OwI (upd s 7 W.heap.size 7) ([t0, t1]) 2 v_ W_ from by rw [upd_at]; exact i_),
  fun f s W c d i j l a => opr rfl rfl (by simp [go_sem]),
  fun f s W c d i j l a => opv rfl rfl (by simp [go_sem, a.e 1 k1_1]) rfl,
  fun f s W c d i j l a => opv rfl rfl (by simp [go_sem, a.e 12 (d 9 rfl), cb br1_0 c 4]) rfl,
  fun f s W c d i j l a => by have m := bwt fB1 c; obtain ⟨v_, W_, r_, b_, i_⟩ := cloneO_run 22 W (s 8) (a3) (c3) ([u0, u1]) 2 ((h3.below m (Nat.le_refl _))) ((by decide)) ((by decide)) (d 8 rfl).2; exact opDo_value rfl rfl (run_appendOp (a.v 11 (d 8 rfl).1) (a.v 13 (d 10 rfl)) r_) b_ (show OwI (upd s 11 W.heap.size 11) ([u0, u1]) 2 v_ W_ from by rw [upd_at]; exact i_),
  fun f s W c d i j l a => opv rfl rfl (by simp [go_sem, a.e 1 k1_1]) rfl, trivial⟩ ?_
 intro f2 s2 W2 hB2 g2 hg2 z2
 have fB2 := hB2.f fB1
 have b2_0 := hB2.b br1_0
 have b2_1 := hB2.b br1_1
 obtain ⟨r2_0, br2_0⟩ := hB2.is 0
 have lr2_0 := hB2.lr 0 br2_0
 obtain ⟨g1', c2', r2_3, q3'⟩ := hB2.is 3
 have la2_3 := hB2.from' 3 (by decide)
 have lo2_3_o := q3'.lim
 have q4' := q3'.low (B' := w.heap.size) (Nat.le_trans fB1.size (la2_3))
 obtain ⟨r2_4, br2_4⟩ := hB2.is 4
 have lr2_4 := hB2.lr 4 br2_4
 obtain ⟨g5', c6', r2_7, q7'⟩ := hB2.is 7
 have la2_7 := hB2.from' 7 (by decide)
 have lo2_7_o := q7'.lim
 have q8' := q7'.low (B' := w.heap.size) (Nat.le_trans fB1.size (la2_7))
 obtain ⟨r2_8, br2_8⟩ := hB2.is 8
 have lr2_8 := hB2.lr 8 br2_8
 obtain ⟨g9', c10', r2_11, q11'⟩ := hB2.is 11
 have la2_11 := hB2.from' 11 (by decide)
 have lo2_11_o := q11'.lim
 have q12' := q11'.low (B' := w.heap.size) (Nat.le_trans fB1.size (la2_11))
 have oo2_3_o_0 := hB2.off 3 0 (by decide) (by decide) (by decide) lo2_3_o.1 (fun W h => OwI.lt h r2_3) (fun _ _ _ h => ltb h.2)
 have oo2_3_o_4 := hB2.off 3 4 (by decide) (by decide) (by decide) lo2_3_o.1 (fun W h => OwI.lt h r2_3) (fun _ _ _ h => ltb h.2)
 have oo2_3_o_8 := hB2.off 3 8 (by decide) (by decide) (by decide) lo2_3_o.1 (fun W h => OwI.lt h r2_3) (fun _ _ _ h => ltb h.2)
 have oo2_7_o_0 := hB2.off 7 0 (by decide) (by decide) (by decide) lo2_7_o.1 (fun W h => OwI.lt h r2_7) (fun _ _ _ h => ltb h.2)
 have oo2_7_o_4 := hB2.off 7 4 (by decide) (by decide) (by decide) lo2_7_o.1 (fun W h => OwI.lt h r2_7) (fun _ _ _ h => ltb h.2)
 have oo2_7_o_8 := hB2.off 7 8 (by decide) (by decide) (by decide) lo2_7_o.1 (fun W h => OwI.lt h r2_7) (fun _ _ _ h => ltb h.2)
 have ow2_7_o_3_o := hB2.two 7 3 (by decide) (by decide) (by decide) lo2_7_o.1 lo2_3_o.1 (fun W h => OwI.lt h r2_7) (fun W h => OwI.lt h r2_3)
 have oo2_11_o_0 := hB2.off 11 0 (by decide) (by decide) (by decide) lo2_11_o.1 (fun W h => OwI.lt h r2_11) (fun _ _ _ h => ltb h.2)
 have oo2_11_o_4 := hB2.off 11 4 (by decide) (by decide) (by decide) lo2_11_o.1 (fun W h => OwI.lt h r2_11) (fun _ _ _ h => ltb h.2)
 have oo2_11_o_8 := hB2.off 11 8 (by decide) (by decide) (by decide) lo2_11_o.1 (fun W h => OwI.lt h r2_11) (fun _ _ _ h => ltb h.2)
 have ow2_11_o_3_o := hB2.two 11 3 (by decide) (by decide) (by decide) lo2_11_o.1 lo2_3_o.1 (fun W h => OwI.lt h r2_11) (fun W h => OwI.lt h r2_3)
 have ow2_11_o_7_o := hB2.two 11 7 (by decide) (by decide) (by decide) lo2_11_o.1 lo2_7_o.1 (fun W h => OwI.lt h r2_11) (fun W h => OwI.lt h r2_7)
 have ne2_0_4 := hB2.nb 0 4
 have ne2_0_8 := hB2.nb 0 8
 have ne2_4_8 := hB2.nb 4 8
 have k2_1 := kt hg2 1 k1_1
 have k2_6 := kt hg2 6 r2_3
 have k2_15 := kt hg2 15 (hB2.is 12)
 obtain ⟨W3, hW3⟩ : ∃ W', W' = W2.setRow (s1 0) #[.int .i64 tab, .slice (some ⟨g1', 0, none⟩) 4 c2', .int .i64 hh, .slice a2 2 c2, .slice a3 2 c3, .int .i64 sl, .bool op] := ⟨_, rfl⟩
 refine tsk (o := _) rfl ⟨rfl, rfl⟩ (run_seg hW3 (fr_ev k2_15) (fr_ev k2_6) b2_0 rfl rfl rfl rfl) ?_
 obtain ⟨fB3, nb3, ot3, z3⟩ := sgf hW3 fB2 b2_0 (by omega)
 clear hW3
 have b3_1 := ot3 _ _ (by omega) b2_1
 have q13' := q4'.other ot3 (by omega) z3
 have q14' := q8'.other ot3 (by omega) z3
 have q15' := q12'.other ot3 (by omega) z3
 refine tail_value (o := _) rfl rfl rfl (v := .pointer (some ⟨(s1 0), 3, none⟩)) (by simp [go_sem, frv 19 k2_1]) ?_
 generalize hg4 : upd g2 16 (.pointer (some ⟨(s1 0), 3, none⟩)) = g4
 have k4_1 := ku hg4 1 k2_1
 have k4_10 := ku hg4 10 (kt hg2 10 r2_7)
 have k4_16 := kt hg4 16 (upd_same _ _ _)
 obtain ⟨W5, hW5⟩ : ∃ W', W' = W3.setRow (s1 0) #[.int .i64 tab, .slice (some ⟨g1', 0, none⟩) 4 c2', .int .i64 hh, .slice (some ⟨g5', 0, none⟩) 2 c6', .slice a3 2 c3, .int .i64 sl, .bool op] := ⟨_, rfl⟩
 refine tsk (o := _) rfl ⟨rfl, rfl⟩ (run_seg hW5 (fr_ev k4_16) (fr_ev k4_10) nb3 rfl rfl rfl rfl) ?_
 obtain ⟨fB5, nb5, ot5, z5⟩ := sgf hW5 fB3 nb3 (by omega)
 clear hW5
 have b5_1 := ot5 _ _ (by omega) b3_1
 have q16' := q13'.other ot5 (by omega) z5
 have q17' := q14'.other ot5 (by omega) z5
 have q18' := q15'.other ot5 (by omega) z5
 refine tail_value (o := _) rfl rfl rfl (v := .pointer (some ⟨(s1 0), 4, none⟩)) (by simp [go_sem, frv 19 k4_1]) ?_
 generalize hg6 : upd g4 17 (.pointer (some ⟨(s1 0), 4, none⟩)) = g6
 have k6_1 := ku hg6 1 k4_1
 have k6_14 := ku hg6 14 (ku hg4 14 (kt hg2 14 r2_11))
 have k6_17 := kt hg6 17 (upd_same _ _ _)
 obtain ⟨W7, hW7⟩ : ∃ W', W' = W5.setRow (s1 0) #[.int .i64 tab, .slice (some ⟨g1', 0, none⟩) 4 c2', .int .i64 hh, .slice (some ⟨g5', 0, none⟩) 2 c6', .slice (some ⟨g9', 0, none⟩) 2 c10', .int .i64 sl, .bool op] := ⟨_, rfl⟩
 refine tsk (o := _) rfl ⟨rfl, rfl⟩ (run_seg hW7 (fr_ev k6_17) (fr_ev k6_14) nb5 rfl rfl rfl rfl) ?_
 obtain ⟨fB7, nb7, ot7, z7⟩ := sgf hW7 fB5 nb5 (by omega)
 clear hW7
 have b7_1 := ot7 _ _ (by omega) b5_1
 have q19' := q16'.other ot7 (by omega) z7
 have q20' := q17'.other ot7 (by omega) z7
 have q21' := q18'.other ot7 (by omega) z7
 refine wpe ?_
 refine hK2 _ _ ?_
 refine wp_seq_k fun K3 hK3 => ?_
 refine ry 1 [(18, 0)] [[], [0]] (rel [is (.agg #[.int .i64 tab, .slice (some ⟨g1', 0, none⟩) 4 c2', .int .i64 hh, .slice (some ⟨g5', 0, none⟩) 2 c6', .slice (some ⟨g9', 0, none⟩) 2 c10', .int .i64 sl, .bool op])])
  ⟨fun f s W c d i j l a => opv rfl rfl (by simp [go_sem, a.e 1 k6_1, cb nb7 c 0, cb nb7 c 1, cb nb7 c 2, cb nb7 c 3, cb nb7 c 4, cb nb7 c 5, cb nb7 c 6]) rfl, trivial⟩ ?_
 intro f8 s8 W8 hB8 g8 hg8 z8
 have fB8 := hB8.f fB7
 have b8_1 := hB8.b b7_1
 have q22' := (q19'.below hB8.below)
 have q23' := (q20'.below hB8.below)
 have q24' := (q21'.below hB8.below)
 have k8_2 := kt hg8 2 (ku hg6 2 (ku hg4 2 (kt hg2 2 (kt hg1 2 r1_1))))
 have k8_18 := kt hg8 18 (hB8.is 0)
 obtain ⟨W9, hW9⟩ : ∃ W', W' = W8.setRow (s1 1) #[.int .i64 tab, .slice (some ⟨g1', 0, none⟩) 4 c2', .int .i64 hh, .slice (some ⟨g5', 0, none⟩) 2 c6', .slice (some ⟨g9', 0, none⟩) 2 c10', .int .i64 sl, .bool op] := ⟨_, rfl⟩
 refine tsk (o := _) rfl ⟨rfl, rfl⟩ (run_seg hW9 (fr_ev k8_2) (fr_ev k8_18) b8_1 rfl rfl rfl rfl) ?_
 obtain ⟨fB9, nb9, ot9, z9⟩ := sgf hW9 fB8 b8_1 (by omega)
 clear hW9
 have q25' := q22'.other ot9 (by omega) z9
 have q26' := q23'.other ot9 (by omega) z9
 have q27' := q24'.other ot9 (by omega) z9
 refine wpe ?_
 refine hK3 _ _ ?_
 refine wp_ret ?_
 refine leave_gen (v := .agg #[.int .i64 tab, .slice (some ⟨g1', 0, none⟩) 4 c2', .int .i64 hh, .slice (some ⟨g5', 0, none⟩) 2 c6', .slice (some ⟨g9', 0, none⟩) 2 c10', .int .i64 sl, .bool op]) (.inr rfl) (by simp [results, Tryz.results48, go_sem, frv 19 k8_2, cl nb9 0, cl nb9 1, cl nb9 2, cl nb9 3, cl nb9 4, cl nb9 5, cl nb9 6]) ?_
 exact ⟨_, rfl, ⟨_, _, _, _, _, _, rfl, q25', q26', q27', by omega, by omega, by omega⟩, fB9⟩
theorem own_own (a1 a2 a3 : Option Addr) (c1 c2 c3 : Nat) (tab p0 p1 p2 p3 hh t0 t1 u0 u1 sl : Int) (op : Bool) (w : World) (h1 : Ii w a1 4 c1 [p0, p1, p2, p3]) (h2 : Ii w a2 2 c2 [t0, t1]) (h3 : Ii w a3 2 c3 [u0, u1]) :
  Calls Tryz.prog 13 #[.agg #[.int .i64 tab, .slice a1 4 c1, .int .i64 hh, .slice a2 2 c2, .slice a3 2 c3, .int .i64 sl, .bool op]] w (OwBlkP ⟨tab, [p0, p1, p2, p3], hh, [t0, t1], [u0, u1], sl, op⟩ w) := by
 refine calls_fr Tryz.func13 Tryz.ntmps13 rfl rfl fun g hg => ?_
 have k0 : g 0 = .agg #[.int .i64 tab, .slice a1 4 c1, .int .i64 hh, .slice a2 2 c2, .slice a3 2 c3, .int .i64 sl, .bool op] := hg 0
 clear hg
 have fB0 : Below w.heap.size w w := Below.refl _ _
 refine rw_ 2 [(1, 0), (2, 1)] [[], []] (rel [bx 0 #[.int .i64 tab, .slice a1 4 c1, .int .i64 hh, .slice a2 2 c2, .slice a3 2 c3, .int .i64 sl, .bool op] 24, bx 1 #[.int .i64 0, .slice none 0 0, .int .i64 0, .slice none 0 0, .slice none 0 0, .int .i64 0, .bool false] 24])
  ⟨fun f s W c d i j l a => opb rfl rfl (by simp [go_sem, a.e 0 k0]),
  fun f s W c d i j l a => opb rfl rfl (by simp [go_sem]), trivial⟩ ?_
 intro f1 s1 W1 hB1 g1 hg1 z1
 have fB1 := hB1.f fB0
 obtain ⟨r1_0, br1_0⟩ := hB1.is 0
 have lr1_0 := hB1.lr 0 br1_0
 obtain ⟨r1_1, br1_1⟩ := hB1.is 1
 have lr1_1 := hB1.lr 1 br1_1
 have ne1_0_1 := hB1.nb 0 1
 have k1_1 := kt hg1 1 r1_0
 refine wp_seq_k fun K2 hK2 => ?_
 refine rz 2 [(3, 0), (4, 1)] [[], [0], [0, 1]] (rel [is (.agg #[.int .i64 tab, .slice a1 4 c1, .int .i64 hh, .slice a2 2 c2, .slice a3 2 c3, .int .i64 sl, .bool op]), fun v s W => OwBlk (s 1) (⟨tab, [p0, p1, p2, p3], hh, [t0, t1], [u0, u1], sl, op⟩) v W])
  ⟨is_k, ⟨fun v k W W' hb h => h.below hb, fun v s s' W e h => by have h' : OwBlk (s 1) (⟨tab, [p0, p1, p2, p3], hh, [t0, t1], [u0, u1], sl, op⟩) v W := h; show OwBlk (s' 1) (⟨tab, [p0, p1, p2, p3], hh, [t0, t1], [u0, u1], sl, op⟩) v W; rw [← e 1 (by simp)]; exact h'⟩, trivial⟩
  ⟨fun f s W c d i j l a => opv rfl rfl (by simp [go_sem, a.e 1 k1_1, cb br1_0 c 0, cb br1_0 c 1, cb br1_0 c 2, cb br1_0 c 3, cb br1_0 c 4, cb br1_0 c 5, cb br1_0 c 6]) rfl,
  fun f s W c d i j l a => by have m := bwt fB1 c; exact opd rfl rfl (by simp [go_sem, a.e 3 (d 0 rfl)]) (copy_own a1 a2 a3 c1 c2 c3 tab p0 p1 p2 p3 hh t0 t1 u0 u1 sl op W (h1.below m (Nat.le_refl _)) (h2.below m (Nat.le_refl _)) (h3.below m (Nat.le_refl _))) (fun e W' h => by obtain ⟨v, e1, h1, h2⟩ := h; exact ⟨v, e1, h2, (show OwBlk (upd s 1 W.heap.size 1) (⟨tab, [p0, p1, p2, p3], hh, [t0, t1], [u0, u1], sl, op⟩) v W' from by rw [upd_at]; exact h1)⟩), trivial⟩ ?_
 intro f2 s2 W2 hB2 g2 hg2 z2
 have fB2 := hB2.f fB1
 have b2_1 := hB2.b br1_1
 obtain ⟨g28', c31', g29', c32', g30', c33', r2_1, q34', q35', q36', q37', q38', q39'⟩ := hB2.is 1
 have la2_1 := hB2.from' 1 (by decide)
 have lo2_1_o0 := q34'.lim
 have q40' := q34'.low (B' := w.heap.size) (Nat.le_trans fB1.size (la2_1))
 have lo2_1_o1 := q35'.lim
 have q41' := q35'.low (B' := w.heap.size) (Nat.le_trans fB1.size (la2_1))
 have lo2_1_o2 := q36'.lim
 have q42' := q36'.low (B' := w.heap.size) (Nat.le_trans fB1.size (la2_1))
 have k2_2 := kt hg2 2 (kt hg1 2 r1_1)
 have k2_4 := kt hg2 4 r2_1
 obtain ⟨W3, hW3⟩ : ∃ W', W' = W2.setRow (s1 1) #[.int .i64 tab, .slice (some ⟨g28', 0, none⟩) 4 c31', .int .i64 hh, .slice (some ⟨g29', 0, none⟩) 2 c32', .slice (some ⟨g30', 0, none⟩) 2 c33', .int .i64 sl, .bool op] := ⟨_, rfl⟩
 refine tsk (o := _) rfl ⟨rfl, rfl⟩ (run_seg hW3 (fr_ev k2_2) (fr_ev k2_4) b2_1 rfl rfl rfl rfl) ?_
 obtain ⟨fB3, nb3, ot3, z3⟩ := sgf hW3 fB2 b2_1 (by omega)
 clear hW3
 have q43' := q40'.other ot3 (by omega) z3
 have q44' := q41'.other ot3 (by omega) z3
 have q45' := q42'.other ot3 (by omega) z3
 refine wpe ?_
 refine hK2 _ _ ?_
 refine wp_ret ?_
 refine leave_gen (v := .agg #[.int .i64 tab, .slice (some ⟨g28', 0, none⟩) 4 c31', .int .i64 hh, .slice (some ⟨g29', 0, none⟩) 2 c32', .slice (some ⟨g30', 0, none⟩) 2 c33', .int .i64 sl, .bool op]) (.inr rfl) (by simp [results, Tryz.results13, go_sem, frv 5 k2_2, cl nb3 0, cl nb3 1, cl nb3 2, cl nb3 3, cl nb3 4, cl nb3 5, cl nb3 6]) ?_
 exact ⟨_, rfl, ⟨_, _, _, _, _, _, rfl, q43', q44', q45', by omega, by omega, by omega⟩, fB3⟩
open Go.RowKit
structure LeT (B : Nat) (T : TypeId) (G : Array Value → World → Prop) (a b : World) : Prop where
  os : b.os = a.os
  tape : b.tape = a.tape
  output : b.output = a.output
  size : a.heap.size ≤ b.heap.size
  block : ∀ k x, a.heap[k]? = some x → (k < B ∨ ∀ cs, x ≠ .cells cs T (0, 0)) → b.heap[k]? = some x
  kind : ∀ k cs, B ≤ k → a.heap[k]? = some (.cells cs T (0, 0)) → ∃ cs', b.heap[k]? = some (.cells cs' T (0, 0)) ∧ cs'.size = cs.size ∧ (G cs a → G cs' b)
def GoodB (G : Array Value → World → Prop) : Prop := ∀ cs a b, Below a.heap.size a b → G cs a → G cs b
section
variable {B : Nat} {T : TypeId} {G : Array Value → World → Prop}
end
section
variable {P : Program} {ops : Array Oper} {Q : Exit → Act → World → Prop}
theorem opDoL_skip {Le : World → World → Prop} {i : Nat} {a : Act} {W W' : World} {R : Value → World → Prop} {o : Oper} (ho : ops[i]? = some o) (hg : o.guard = none ∧ o.dst = none) (hr : (execOp a.eval o).run P W = .ok .skip W') (hb : Le W W') (hR : R undef W') : OpDoL Le P ops Q i a W R := by
  intro K hK
  unfold wpOp
  simp only [ho, Region.wanted, hg.1, if_true]
  refine .inl ?_
  unfold Oper.wp
  rw [hr]
  have := hK undef W' hb hR
  rw [ho] at this
  simp only [Option.bind_some, hg.2] at this
  simp only [Oper.upon, hg.2]
  exact this
end
def justC (fin : Array Value) (cs : Array Value) (_ : World) : Prop := cs = fin
theorem justC_b {fin : Array Value} : GoodB (justC fin) := fun _ _ _ _ h => h
def tyC (r : Bl) (cs : Array Value) (W : World) : Prop := TyBlk 0 r (.agg cs) W
theorem tyC_b {r : Bl} : GoodB (tyC r) := fun _ _ _ hb h => TyBlk.below h hb
theorem tyC_s {r : Bl} {cs : Array Value} {W W' : World} {b : Nat} {T : TypeId} (hT : (T != 3) = true) (hot : ∀ k x, k ≠ b → W.heap[k]? = some x → W'.heap[k]? = some x) (hz : W.heap.size ≤ W'.heap.size) (hb : ∃ cs0, W.heap[b]? = some (.cells cs0 T (0, 0))) (h : tyC r cs W) : tyC r cs W' := by
  obtain ⟨cs0, hb⟩ := hb
  obtain ⟨g1, c1, g2, c2, g3, c3, e, h1, h2, h3⟩ := h
  exact ⟨g1, c1, g2, c2, g3, c3, e, h1.other hot (own_ne h1 hb hT) hz, h2.other hot (own_ne h2 hb hT) hz, h3.other hot (own_ne h3 hb hT) hz⟩
open Go.RowKit
theorem sheet_b (x : Sh) (hx : ShIn x) (w : World) : Calls Tryz.prog 34 #[.agg #[.int .u8 x.x0, .int .u8 x.x1, .int .u8 x.x2, .int .u8 x.x3, .int .u8 x.xh, .int .u8 x.y0, .int .u8 x.y1, .int .u8 x.y2, .int .u8 x.y3, .bool x.xo, .int .u8 x.ca, .int .u8 x.cb, .int .u8 x.v0, .int .u8 x.v1, .int .u8 x.v2, .int .u8 x.v3, .int .u8 x.v4]] w (TyBlkP (shBl x) w) := by
  obtain ⟨h0, h1', h2', h3', hh, b0, b1, b2, b3, ca, cb, e0, e1, e2, e3, e4⟩ := hx
  exact sheet_blank x.x0 x.x1 x.x2 x.x3 x.xh x.y0 x.y1 x.y2 x.y3 x.xo x.ca x.cb x.v0 x.v1 x.v2 x.v3 x.v4 w h0 h1' h2' h3' hh b0 b1 b2 b3 ca cb e0 e1 e2 e3 e4
theorem sheet_c (x : Sh) (hx : ShIn x) (w : World) : Calls Tryz.prog 35 #[.agg #[.int .u8 x.x0, .int .u8 x.x1, .int .u8 x.x2, .int .u8 x.x3, .int .u8 x.xh, .int .u8 x.y0, .int .u8 x.y1, .int .u8 x.y2, .int .u8 x.y3, .bool x.xo, .int .u8 x.ca, .int .u8 x.cb, .int .u8 x.v0, .int .u8 x.v1, .int .u8 x.v2, .int .u8 x.v3, .int .u8 x.v4]] w (fun e w' => e = .returned (.agg #[.int .i64 (shCal x).1, .int .i64 (shCal x).2]) ∧ Below w.heap.size w w') := by
  obtain ⟨h0, h1', h2', h3', hh, b0, b1, b2, b3, ca, cb, e0, e1, e2, e3, e4⟩ := hx
  exact shCal_any x.x0 x.x1 x.x2 x.x3 x.xh x.y0 x.y1 x.y2 x.y3 x.xo x.ca x.cb x.v0 x.v1 x.v2 x.v3 x.v4 w h0 h1' h2' h3' hh b0 b1 b2 b3 ca cb e0 e1 e2 e3 e4
theorem twin_ty {B : Nat} (b : Bl) {v : Value} (w : World) (hT : TyBlk B b v w) (hck : checkErr b = 0) : Calls Tryz.prog 33 #[v] w (fun e w' => ∃ u, e = .returned u ∧ TyBlk B (twinB b) u w' ∧ Below w.heap.size w w') := by
  obtain ⟨⟨hl1, hl2, hl3⟩, -, -, gh, ⟨gp0, gp1, gp2, gp3⟩, gt0, gt1, gu0, gu1⟩ := good_nums hck
  obtain ⟨tab, panels, hh, top, bottom, sl, op⟩ := b
  obtain ⟨p0, p1, p2, p3, rfl⟩ := list_four hl1
  obtain ⟨t0, t1, rfl⟩ := list_two hl2
  obtain ⟨u0, u1, rfl⟩ := list_two hl3
  simp only [List.getD_cons_zero, List.getD_cons_succ] at gp0 gp1 gp2 gp3 gt0 gt1 gu0 gu1
  have gh : 1 ≤ hh ∧ hh ≤ 3000 := gh
  obtain ⟨g1, c1, g2, c2, g3, c3, rfl, h1, h2, h3⟩ := hT
  exact twin_any _ _ g3 B c1 c2 c3 tab p0 p1 p2 p3 hh t0 t1 u0 u1 sl op w h1.ii h2.ii h3
theorem wished_blk (x : Sh) (hx : ShIn x) (a1 a2 a3 : Option Addr) (c1 c2 c3 : Nat) (b : Bl) (lo hi : Int) (w : World) (h1 : Ii w a1 b.panels.length c1 b.panels) (h2 : Ii w a2 b.top.length c2 b.top) (h3 : Ii w a3 b.bottom.length c3 b.bottom) (hck : checkErr b = 0) (glo : 0 ≤ lo ∧ lo ≤ 100000) (ghi : 0 ≤ hi ∧ hi ≤ 100000) : Calls Tryz.prog 36 #[.agg #[.int .u8 x.x0, .int .u8 x.x1, .int .u8 x.x2, .int .u8 x.x3, .int .u8 x.xh, .int .u8 x.y0, .int .u8 x.y1, .int .u8 x.y2, .int .u8 x.y3, .bool x.xo, .int .u8 x.ca, .int .u8 x.cb, .int .u8 x.v0, .int .u8 x.v1, .int .u8 x.v2, .int .u8 x.v3, .int .u8 x.v4], .agg #[.int .i64 b.tab, .slice a1 (b.panels.length) c1, .int .i64 b.height, .slice a2 (b.top.length) c2, .slice a3 (b.bottom.length) c3, .int .i64 b.slot, .bool b.isOpen], .agg #[.int .i64 lo, .int .i64 hi]] w (fun e w' => e = .returned (.agg #[.int .i64 ((wishOf x b lo hi).length.1), .int .i64 ((wishOf x b lo hi).length.2), .int .i64 ((wishOf x b lo hi).width.1), .int .i64 ((wishOf x b lo hi).width.2), .int .i64 ((wishOf x b lo hi).height.1), .int .i64 ((wishOf x b lo hi).height.2), .int .i64 ((wishOf x b lo hi).outer.1), .int .i64 ((wishOf x b lo hi).outer.2), .int .i64 ((wishOf x b lo hi).inner.1), .int .i64 ((wishOf x b lo hi).inner.2), .bool b.isOpen]) ∧ Below w.heap.size w w') := by
  obtain ⟨⟨hl1, hl2, hl3⟩, -, -, gh, ⟨gp0, gp1, gp2, gp3⟩, gt0, gt1, gu0, gu1⟩ := good_nums hck
  obtain ⟨tab, panels, hh, top, bottom, sl, op⟩ := b
  obtain ⟨p0, p1, p2, p3, rfl⟩ := list_four hl1
  obtain ⟨t0, t1, rfl⟩ := list_two hl2
  obtain ⟨u0, u1, rfl⟩ := list_two hl3
  simp only [List.getD_cons_zero, List.getD_cons_succ] at gp0 gp1 gp2 gp3 gt0 gt1 gu0 gu1
  have gh : 1 ≤ hh ∧ hh ≤ 3000 := gh
  obtain ⟨h0, h1', h2', h3', hh', b0, b1, b2, b3, ca, cb, e0, e1, e2, e3, e4⟩ := hx
  exact wishS_any x.x0 x.x1 x.x2 x.x3 x.xh x.y0 x.y1 x.y2 x.y3 x.xo x.ca x.cb x.v0 x.v1 x.v2 x.v3 x.v4 a1 a2 a3 c1 c2 c3 tab p0 p1 p2 p3 hh t0 t1 u0 u1 sl op lo hi w h1 h2 h3 h0 h1' h2' h3' hh' b0 b1 b2 b3 ca cb e0 e1 e2 e3 e4 (by omega) (by omega) (by omega) (by omega) (by omega) (by omega) (by omega) (by omega) (by omega) glo ghi
def IsPpP (L : List Sp) (er : Int) (w : World) (e : Ending) (w' : World) : Prop := ∃ x, e = .returned (.tuple #[x, .int .i64 er]) ∧ IsPp L x w' ∧ Below w.heap.size w w'
theorem close_ok {u : Value} {b : Bl} (v : Wi) (lo hi : Int) (w : World) (hB : Blk w u b) (hck : checkErr b = 0) (hwi : wishErr v = 0) (h1 : 1 ≤ lo) (h2 : lo ≤ hi) (h3 : hi ≤ 10000) : Calls Tryz.prog 22 #[u, .agg #[.int .i64 v.length.1, .int .i64 v.length.2, .int .i64 v.width.1, .int .i64 v.width.2, .int .i64 v.height.1, .int .i64 v.height.2, .int .i64 v.outer.1, .int .i64 v.outer.2, .int .i64 v.inner.1, .int .i64 v.inner.2, .bool v.isOpen], .agg #[.int .i64 lo, .int .i64 hi]] w (IsPpP (closeL b v (lo, hi)) 0 w) := by
  have hE := wished_ok hck hwi h1 h2 h3
  refine (close_any u b v.length.1 v.length.2 v.width.1 v.width.2 v.height.1 v.height.2 v.outer.1 v.outer.2 v.inner.1 v.inner.2 v.isOpen lo hi w hB).mono fun e w' h => ?_
  obtain ⟨a, n, c, e1, h1, h2⟩ := h
  have hE' : wishedErr b ⟨(v.length.1, v.length.2), (v.width.1, v.width.2), (v.height.1, v.height.2), (v.outer.1, v.outer.2), (v.inner.1, v.inner.2), v.isOpen⟩ [(lo, hi)] = 0 := hE
  rw [hE'] at e1
  rw [if_pos hE'] at h1
  exact ⟨_, e1, isPp_of h1, h2⟩
open Go.RowKit
def fitsR (n lo hi : Int) : Bool := inB n (1000 * lo) (1000 * hi)
def flapR (b : Bl) (top outer : Bool) : Int := (if top = true then b.top else b.bottom).getD (if outer = true then 0 else 1) 0
def gapR (b : Bl) (top outer : Bool) (c : Int) : Int := (panR b (if outer = true then 1 else 0) c - 1000 * flapR b top outer) - 1000 * flapR b top outer
open Go.RowKit
def rangeL (lo hi : Int) : List Int := (List.range (hi + 1 - lo).toNat).map fun (k : Nat) => lo + (k : Int)
theorem open_top {b : Bl} (h : checkErr b = 0) (ho : b.isOpen = true) : b.top.getD 0 0 = 0 ∧ b.top.getD 1 0 = 0 := by
  obtain ⟨⟨-, h2, -⟩, -⟩ := good_nums h
  unfold checkErr at h
  split at h
  · cases h
  · split at h
    · cases h
    · split at h
      · cases h
      · rename_i hn
        obtain ⟨t, p, hh, top, u, s, o⟩ := b
        simp only at ho h2 hn
        match top, h2 with
        | [x, y], _ =>
          simp [ho, within] at hn
          simp; omega
open Go.RowKit
def holdsR (b : Bl) (w : Wi) (k : Nat) (c : Int) : Bool :=
  match k with
  | 0 => fitsR (panR b 0 c) w.length.1 w.length.2
  | 1 => fitsR (panR b 1 c) w.width.1 w.width.2
  | 2 => fitsR (panR b 2 c) w.length.1 w.length.2
  | 3 => fitsR (panR b 3 c) w.width.1 w.width.2
  | 4 => fitsR (heightR b c) w.height.1 w.height.2
  | 5 => if (b.isOpen || w.isOpen) = true then (b.isOpen && w.isOpen) else fitsR (gapR b true true c) w.outer.1 w.outer.2
  | 6 => (b.isOpen || w.isOpen) || fitsR (gapR b true false c) w.inner.1 w.inner.2
  | 7 => fitsR (gapR b false true c) w.outer.1 w.outer.2
  | 8 => fitsR (gapR b false false c) w.inner.1 w.inner.2
  | _ => decide (c ≤ 1000 * b.slot)
open Go.RowKit
def alwR (b : Bl) (w : Wi) (s : Sp) (k : Nat) : Bool := (rangeL s.1 s.2).all (holdsR b w k)
theorem alw_no {b : Bl} {w : Wi} {lo hi c : Int} {k : Nat} (h1 : lo ≤ c) (h2 : c ≤ hi) (h : (!(holdsR b w k c)) = true) : alwR b w (lo, hi) k = false := by
  unfold alwR rangeL
  rw [List.all_eq_false]
  exact ⟨c, List.mem_map.2 ⟨(c - lo).toNat, List.mem_range.2 (by simp only; omega), by simp only; omega⟩, by simpa using h⟩
theorem alw_yes {b : Bl} {w : Wi} {lo hi c : Int} {k : Nat} (h : ∀ d, lo ≤ d → d < c → holdsR b w k d = true) (hc : hi < c) : alwR b w (lo, hi) k = true := by
  unfold alwR rangeL
  rw [List.all_eq_true]
  intro x hx
  obtain ⟨j, hj, rfl⟩ := List.mem_map.1 hx
  have := List.mem_range.1 hj
  exact h _ (by simp only; omega) (by simp only at *; omega)
open Go.RowKit
def setH (b : Bl) (h : Int) : Bl := { b with height := h }
theorem step_ne {W : World} {g b n c : Nat} {xs : List Int} {cells : Array Value} {t : TypeId} {o : Nat × Nat} {a : Option Addr} {m d : Nat} (h : Ii W (some ⟨g, 0, none⟩) n c xs) (hl : 2 ≤ xs.length) (hb : W.heap[b]? = some (.cells cells t o)) (hy : cells[1]? = some (.slice a m d)) : g ≠ b := by
  rintro rfl
  obtain ⟨b', off, e, -, hc⟩ := h.at (by omega)
  cases e
  have h1 := hc 1 (by omega)
  have h2 := Joins.cell_of_block hb (0 + 1)
  rw [hy] at h2
  have h3 := h2.symm.trans h1
  simp at h3
open Go.RowKit
theorem alw_iff {b : Bl} {w : Wi} {lo hi : Int} {k : Nat} : alwR b w (lo, hi) k = true ↔ ∀ c, lo ≤ c → c ≤ hi → holdsR b w k c = true := by
  constructor
  · intro h c h1 h2
    cases hc : holdsR b w k c with
    | true => rfl
    | false => rw [alw_no h1 h2 (by rw [hc]; rfl)] at h; cases h
  · intro h
    exact alw_yes (c := max lo (hi + 1)) (fun d h1 h2 => h d h1 (by omega)) (by omega)
theorem fits_iff {n a b : Int} : fitsR n a b = true ↔ 1000 * a ≤ n ∧ n ≤ 1000 * b := by unfold fitsR inB; simp
def tgt (w : Wi) (i : Nat) : Sp := if i % 2 = 0 then w.length else w.width
def gpOf (w : Wi) (k : Nat) : Sp := if k = 0 then w.outer else w.inner
theorem hold_tgt (b : Bl) (w : Wi) {i : Nat} (hi : i < 4) (c : Int) : holdsR b w i c = fitsR (1000 * b.panels.getD i 0 - c) (tgt w i).1 (tgt w i).2 := by
  match i, hi with
  | 0, _ => rfl
  | 1, _ => rfl
  | 2, _ => rfl
  | 3, _ => rfl
theorem lens1 {lo hi x : Int} {s : Sp} (h : lo ≤ hi) : (∀ c, lo ≤ c → c ≤ hi → 1000 * s.1 ≤ 1000 * x - c ∧ 1000 * x - c ≤ 1000 * s.2) ↔ (lengthsOf lo hi s 1).1 ≤ x ∧ x ≤ (lengthsOf lo hi s 1).2 := by
  show _ ↔ -((-(1000 * s.1 + 1 * hi)) / 1000) ≤ x ∧ x ≤ (1000 * s.2 + 1 * lo) / 1000
  constructor
  · intro hh
    have h1 := hh lo (Int.le_refl _) h
    have h2 := hh hi h (Int.le_refl _)
    omega
  · intro hh c h1 h2
    omega
theorem lens2 {lo hi x : Int} {s : Sp} (h : lo ≤ hi) : (∀ c, lo ≤ c → c ≤ hi → 1000 * s.1 ≤ 1000 * x - c - c ∧ 1000 * x - c - c ≤ 1000 * s.2) ↔ (lengthsOf lo hi s 2).1 ≤ x ∧ x ≤ (lengthsOf lo hi s 2).2 := by
  show _ ↔ -((-(1000 * s.1 + 2 * hi)) / 1000) ≤ x ∧ x ≤ (1000 * s.2 + 2 * lo) / 1000
  constructor
  · intro hh
    have h1 := hh lo (Int.le_refl _) h
    have h2 := hh hi h (Int.le_refl _)
    omega
  · intro hh c h1 h2
    omega
theorem alw_high {b : Bl} {w : Wi} {lo hi x : Int} (h : lo ≤ hi) (ho : b.isOpen = w.isOpen) : alwR (setH b x) w (lo, hi) 4 = true ↔ (lengthsOf lo hi w.height (foldsOf w.isOpen)).1 ≤ x ∧ x ≤ (lengthsOf lo hi w.height (foldsOf w.isOpen)).2 := by
  rw [alw_iff]
  have e : ∀ c, holdsR (setH b x) w 4 c = fitsR (if w.isOpen = true then 1000 * x - c else 1000 * x - c - c) w.height.1 w.height.2 := fun c => by
    show fitsR (if b.isOpen = true then 1000 * x - c else 1000 * x - c - c) w.height.1 w.height.2 = _
    rw [ho]
  cases hw : w.isOpen with
  | true =>
    rw [hw] at e
    rw [show foldsOf true = 1 from rfl, ← lens1 h]
    exact ⟨fun hh c h1 h2 => fits_iff.1 ((e c) ▸ hh c h1 h2), fun hh c h1 h2 => (e c).trans (fits_iff.2 (hh c h1 h2))⟩
  | false =>
    rw [hw] at e
    rw [show foldsOf false = 2 from rfl, ← lens2 h]
    exact ⟨fun hh c h1 h2 => fits_iff.1 ((e c) ▸ hh c h1 h2), fun hh c h1 h2 => (e c).trans (fits_iff.2 (hh c h1 h2))⟩
theorem hold_gap (b : Bl) (w : Wi) {k : Nat} (hk : k < 2) (c : Int) : holdsR b w (7 + k) c = fitsR (1000 * b.panels.getD (1 - k) 0 - c - 1000 * b.bottom.getD k 0 - 1000 * b.bottom.getD k 0) (gpOf w k).1 (gpOf w k).2 := by
  match k, hk with
  | 0, _ => rfl
  | 1, _ => rfl
theorem flaps_iff {lo hi p f : Int} {gap : Sp} : ((flapsOf lo hi gap p).1 ≤ f ∧ f ≤ (flapsOf lo hi gap p).2) ↔ (0 ≤ f ∧ f ≤ 3000) ∧ (lengthsOf lo hi gap 1).1 ≤ p - 2 * f ∧ p - 2 * f ≤ (lengthsOf lo hi gap 1).2 := by
  unfold flapsOf both upI downI
  generalize lengthsOf lo hi gap 1 = L
  simp only
  omega
abbrev neF (lo hi : Int) (gap : Sp) (p : Int) : Prop := (flapsOf lo hi gap p).1 ≤ (flapsOf lo hi gap p).2
theorem panelFrom_yes {lo hi : Int} {gap : Sp} : ∀ (n : Nat) (p : Int), (panelFrom lo hi gap n p).2.2 = true → (p ≤ (panelFrom lo hi gap n p).1 ∧ (panelFrom lo hi gap n p).1 < p + (n : Int)) ∧ neF lo hi gap (panelFrom lo hi gap n p).1 ∧ (panelFrom lo hi gap n p).2.1 = (flapsOf lo hi gap (panelFrom lo hi gap n p).1).1 ∧ ∀ q, p ≤ q → q < (panelFrom lo hi gap n p).1 → ¬ neF lo hi gap q
  | 0, p, h => by cases h
  | n + 1, p, h => by
    unfold panelFrom at h ⊢
    by_cases hc : (flapsOf lo hi gap p).1 ≤ (flapsOf lo hi gap p).2
    · rw [if_pos hc]
      exact ⟨⟨Int.le_refl _, by simp only; omega⟩, hc, rfl, fun q h1 h2 => by simp only at h2; omega⟩
    · rw [if_neg hc] at h ⊢
      obtain ⟨⟨h1, h2⟩, h3, h4, h5⟩ := panelFrom_yes n (p + 1) h
      refine ⟨⟨by omega, by omega⟩, h3, h4, fun q h6 h7 => ?_⟩
      by_cases e : q = p
      · subst e; exact hc
      · exact h5 q (by omega) h7
theorem panelFrom_no {lo hi : Int} {gap : Sp} : ∀ (n : Nat) (p : Int), (panelFrom lo hi gap n p).2.2 = false → ∀ q, p ≤ q → q < p + (n : Int) → ¬ neF lo hi gap q
  | 0, p, _ => fun q h1 h2 => by omega
  | n + 1, p, h => by
    unfold panelFrom at h
    by_cases hc : (flapsOf lo hi gap p).1 ≤ (flapsOf lo hi gap p).2
    · rw [if_pos hc] at h; cases h
    · rw [if_neg hc] at h
      intro q h6 h7
      by_cases e : q = p
      · subst e; exact hc
      · exact panelFrom_no n (p + 1) h q (by omega) (by omega)
theorem valid_iff {s : Sp} {p : Int} (h : 1 ≤ p ∧ p ≤ 3000) : (s.1 ≤ p ∧ p ≤ s.2) ↔ ((validOf s).1 ≤ p ∧ p ≤ (validOf s).2) := by
  unfold validOf both
  simp only
  omega
theorem valid_bd (s : Sp) : 1 ≤ (validOf s).1 ∧ (validOf s).2 ≤ 3000 := by unfold validOf both; simp only; omega
open Go.RowKit
theorem holdsR_iff {b : Bl} {w : Wi} {k : Nat} {c : Int} (hk : k < 10) (h1 : 1 ≤ c) (h2 : c ≤ 10000) : holdsR b w k c = true ↔ (holdsOf b w k).1 ≤ c ∧ c ≤ (holdsOf b w k).2 := by
  have hu : ∀ n : Int, upI n 1 = n := fun n => by unfold upI; omega
  have hd : ∀ n : Int, downI n 1 = n := fun n => by unfold downI; omega
  match k, hk with
  | 0, _ => simp [holdsR, fitsR, inB, panR, holdsOf, amongOf, both, every, hu, hd, meas, measOf, targetOf]; omega
  | 1, _ => simp [holdsR, fitsR, inB, panR, holdsOf, amongOf, both, every, hu, hd, meas, measOf, targetOf]; omega
  | 2, _ => simp [holdsR, fitsR, inB, panR, holdsOf, amongOf, both, every, hu, hd, meas, measOf, targetOf]; omega
  | 3, _ => simp [holdsR, fitsR, inB, panR, holdsOf, amongOf, both, every, hu, hd, meas, measOf, targetOf]; omega
  | 4, _ =>
    cases ho : b.isOpen with
    | true => simp [holdsR, fitsR, inB, heightR, holdsOf, amongOf, both, every, hu, hd, meas, measOf, targetOf, ho, foldsOf]; omega
    | false => simp [holdsR, fitsR, inB, heightR, holdsOf, amongOf, both, every, upI, downI, meas, measOf, targetOf, ho, foldsOf]; omega
  | 5, _ =>
    cases ho : b.isOpen <;> cases hwo : w.isOpen <;> simp [holdsR, fitsR, inB, gapR, flapR, panR, holdsOf, amongOf, both, every, hu, hd, meas, measOf, targetOf, ho, hwo] <;> omega
  | 6, _ =>
    cases ho : b.isOpen <;> cases hwo : w.isOpen <;> simp [holdsR, fitsR, inB, gapR, flapR, panR, holdsOf, amongOf, both, every, hu, hd, meas, measOf, targetOf, ho, hwo] <;> omega
  | 7, _ => simp [holdsR, fitsR, inB, gapR, flapR, panR, holdsOf, amongOf, both, every, hu, hd, meas, measOf, targetOf]; omega
  | 8, _ => simp [holdsR, fitsR, inB, gapR, flapR, panR, holdsOf, amongOf, both, every, hu, hd, meas, measOf, targetOf]; omega
  | 9, _ => simp [holdsR, holdsOf, both, every]; omega
open Go.RowKit
theorem all_e4 {vi : Wi} {lo hi tab : Int} (h : wishErr vi = 0) (hs : isSpan (lo, hi) 1 10000 = true) (ht : inB tab 0 100 = true) : blankAll vi lo hi tab = blankOf vi lo hi tab := by
  have h1 : checkedErr [] [(lo, hi)] = 0 := by simp [checkedErr, hs]
  unfold blankAll; rw [if_pos (by rw [h]; rfl), if_neg (by rw [h1]; decide), if_neg (by rw [within_one, ht]; decide)]
theorem blank_all (l1 h1' l2 h2' l3 h3' l4 h4' l5 h5' : Int) (wo : Bool) (lo hi tab : Int) (w : World) : Calls Tryz.prog 28 #[.agg #[.int .i64 l1, .int .i64 (h1'), .int .i64 l2, .int .i64 (h2'), .int .i64 l3, .int .i64 (h3'), .int .i64 l4, .int .i64 (h4'), .int .i64 l5, .int .i64 (h5'), .bool wo], .agg #[.int .i64 lo, .int .i64 hi], .int .i64 tab] w (BlankP (blankAll ⟨(l1, h1'), (l2, h2'), (l3, h3'), (l4, h4'), (l5, h5'), wo⟩ lo hi tab) w) := by
  by_cases hw : (wishErr ⟨(l1, h1'), (l2, h2'), (l3, h3'), (l4, h4'), (l5, h5'), wo⟩ == 0) = true
  · cases hc : (checkedErr [] [(lo, hi)] != 0) with
    | true => exact blank_bad l1 h1' l2 h2' l3 h3' l4 h4' l5 h5' lo hi wo tab w fun _ h => by rw [hc] at h; cases h
    | false =>
      cases ht : (!(within 0 100 [tab])) with
      | true => exact blank_bad l1 h1' l2 h2' l3 h3' l4 h4' l5 h5' lo hi wo tab w fun _ _ => ht
      | false =>
        by_cases he : (blankOf ⟨(l1, h1'), (l2, h2'), (l3, h3'), (l4, h4'), (l5, h5'), wo⟩ lo hi tab).2.2 = 0
        · exact blank_good l1 h1' l2 h2' l3 h3' l4 h4' l5 h5' lo hi wo tab w hw hc ht he
        · exact blank_err l1 h1' l2 h2' l3 h3' l4 h4' l5 h5' lo hi wo tab w hw hc ht he
  · exact blank_bad l1 h1' l2 h2' l3 h3' l4 h4' l5 h5' lo hi wo tab w fun h => absurd h hw
open Go.RowKit
structure LeC (B : Nat) (L : List Int) (a b : World) : Prop where
  os : b.os = a.os
  tape : b.tape = a.tape
  output : b.output = a.output
  size : a.heap.size ≤ b.heap.size
  block : ∀ k, k < B → k < a.heap.size → b.heap[k]? = a.heap[k]?
  cells : ∀ (g : Nat) (cur : Array Value), a.heap[g]? = some (Obj.cells cur 3 (0, 0)) → ∃ cur' : Array Value, b.heap[g]? = some (Obj.cells cur' 3 (0, 0)) ∧ cur'.size = cur.size ∧ ∀ j, cur'[j]? = cur[j]? ∨ (4 ≤ j ∧ j < cur.size ∧ cur'[j]? = (iis L)[j]?)
section
variable {B : Nat} {L : List Int}
theorem LeC.refl (a : World) : LeC B L a a := ⟨rfl, rfl, rfl, Nat.le_refl _, fun _ _ _ => rfl, fun _ cur h => ⟨cur, h, rfl, fun _ => .inl rfl⟩⟩
theorem LeC.trans (a b c : World) (h : LeC B L a b) (k : LeC B L b c) : LeC B L a c :=
  ⟨k.os.trans h.os, k.tape.trans h.tape, k.output.trans h.output, Nat.le_trans h.size k.size, fun i hi hs => (k.block i hi (Nat.lt_of_lt_of_le hs h.size)).trans (h.block i hi hs), fun g cur hg => by
    obtain ⟨c1, h1, h2, h3⟩ := h.cells g cur hg
    obtain ⟨c2, k1, k2, k3⟩ := k.cells g c1 h1
    refine ⟨c2, k1, by omega, fun j => ?_⟩
    rcases k3 j with e | ⟨e1, e2, e3⟩
    · rcases h3 j with e' | ⟨e1, e2, e3⟩
      · exact .inl (e.trans e')
      · exact .inr ⟨e1, e2, e.trans e3⟩
    · exact .inr ⟨e1, by omega, e3⟩⟩
theorem LeC.of_below (a b : World) (h : Below a.heap.size a b) : LeC B L a b :=
  ⟨h.os, h.tape, h.output, h.size, fun k _ hs => h.block k hs, fun g cur hg => ⟨cur, bwb hg h, rfl, fun _ => .inl rfl⟩⟩
theorem LeC.drew (a : World) : LeC B L a a.drew := LeC.of_below _ _ (Below.refl _ _).drew
theorem LeC.below {a b : World} (h : LeC B L a b) (hB : B ≤ a.heap.size) : Below B a b :=
  ⟨h.os, h.tape, h.output, h.size, fun k hk => h.block k hk (by omega)⟩
theorem iis_at (xs : List Int) (j : Nat) : (iis xs)[j]? = (xs[j]?).map (Value.int .i64) := by unfold iis; rw [List.getElem?_map]
theorem Ro.leC {k g c : Nat} {a b : World} (hR : Ro B (L.take k) (some ⟨g, 0, none⟩) c a) (h : LeC B L a b) : Ro B (L.take k) (some ⟨g, 0, none⟩) c b := by
  obtain ⟨g', e, hB, hg, cur, h2, h3, h4, h5, h6⟩ := Ro.plain hR
  cases e
  obtain ⟨cur', k2, k3, k4⟩ := h.cells g cur h2
  refine Ro.mk hB k2 h3 h4 (by omega) ?_
  rw [← h6]
  apply List.ext_getElem?
  intro j
  rw [List.getElem?_take, List.getElem?_take]
  split
  · rename_i hj
    rw [Array.getElem?_toList, Array.getElem?_toList]
    rcases k4 j with e | ⟨-, -, e⟩
    · exact e
    · have h7 : (cur.toList.take (L.take k).length)[j]? = (iis (L.take k))[j]? := by rw [h6]
      rw [List.getElem?_take_of_lt hj, Array.getElem?_toList, iis_at] at h7
      have hk : j < k := by rw [List.length_take] at hj; omega
      rw [List.getElem?_take_of_lt hk] at h7
      rw [e, h7, iis_at]
  · rfl
theorem ro_push {k g c : Nat} {W : World} {v : Int} (hR : Ro B (L.take k) (some ⟨g, 0, none⟩) c W) (hc : k + 1 ≤ c) (hk : k < L.length) (hv : L[k]? = some v) (h4k : 4 ≤ k) :
    Ro B (L.take (k + 1)) (some ⟨g, 0, none⟩) c (W.setCell ⟨g, k, none⟩ (.int .i64 v)) ∧ LeC B L W (W.setCell ⟨g, k, none⟩ (.int .i64 v)) := by
  obtain ⟨g', e, hB, hg, cur, h2, h3, h4, h5, h6⟩ := Ro.plain hR
  cases e
  rw [setCell_row h2]
  have hblk := setRow_heap W g cur (cur.setIfInBounds k (.int .i64 v)) _ (0, 0) h2
  have hl1 : (L.take (k + 1)).length = k + 1 := by rw [List.length_take]; omega
  have hl0 : (L.take k).length = k := by rw [List.length_take]; omega
  constructor
  · refine Ro.mk hB hblk (by omega) h4 (by rw [Array.size_setIfInBounds]; exact h5) ?_
    rw [hl1]
    rw [hl0] at h6
    apply List.ext_getElem?
    intro j
    rw [iis_at, List.getElem?_take, List.getElem?_take]
    split
    · rename_i hj
      rw [Array.getElem?_toList, Array.getElem?_setIfInBounds]
      by_cases e : k = j
      · subst e
        rw [if_pos rfl, if_pos (by omega), hv]; rfl
      · rw [if_neg e]
        have h7 : (cur.toList.take k)[j]? = (iis (L.take k))[j]? := by rw [h6]
        rw [List.getElem?_take_of_lt (by omega), Array.getElem?_toList, iis_at, List.getElem?_take_of_lt (by omega)] at h7
        exact h7
    · rfl
  · refine ⟨rfl, rfl, rfl, by rw [setRow_size]; exact Nat.le_refl _, fun i hi _ => setRow_other W g i _ (by omega), fun g' cur' hg' => ?_⟩
    by_cases e : g' = g
    · subst e
      have e2 : cur' = cur := by rw [hg'] at h2; injection h2 with h2; injection h2
      subst e2
      refine ⟨_, hblk, by rw [Array.size_setIfInBounds], fun j => ?_⟩
      rw [Array.getElem?_setIfInBounds]
      by_cases e : k = j
      · subst e
        right
        exact ⟨h4k, by omega, by rw [if_pos rfl, if_pos (by omega), iis_at, hv]; rfl⟩
      · left; rw [if_neg e]
    · exact ⟨cur', (setRow_other W g g' _ e).trans hg', rfl, fun _ => .inl rfl⟩
theorem app_two {W : World} (ty : TypeId) {k g c b off cb : Nat} {x y : Int} (h4k : 4 ≤ k) (hk : k + 2 ≤ L.length) (hL : L.length ≤ 1000) (hx : L[k]? = some x) (hy : L[k + 1]? = some y) (hR : Ro B (L.take k) (some ⟨g, 0, none⟩) c W)
    (hb : ∀ j u, [Value.int .i64 x, Value.int .i64 y][j]? = some u → W.cell? ⟨b, off + j, none⟩ = some u) :
    ∃ g' c' W', (Builtin.append_ #[22, 22] ty #[.slice (some ⟨g, 0, none⟩) k c, .slice (some ⟨b, off, none⟩) 2 cb]).run Tryz.prog W = .ok (.slice (some ⟨g', 0, none⟩) (k + 2) c') W' ∧ LeC B L W W' ∧ Ro B (L.take (k + 2)) (some ⟨g', 0, none⟩) c' W' := by
  obtain ⟨i0, hi, hz0, hz1, hz2⟩ := info_parts Tryz.info3y
  have hl0 : (L.take k).length = k := by rw [List.length_take]; omega
  obtain ⟨g', e, hB, hg, cur, h2, h3, h4, h5, h6⟩ := Ro.plain hR
  cases e
  rw [hl0] at h3 h6
  by_cases hroom : k + 2 ≤ c
  · have hr := run_append_room_cells (P := Tryz.prog) W 22 ty 3 i0 Tryz.underlying22 hi g 0 k c ⟨b, off, none⟩ 2 cb [.int .i64 x, .int .i64 y] (by rw [hz1]; rfl) (fun j u hj => by rw [add_plain']; exact hb j u hj) (by simp [Value.oneCell']) hroom
      (by
        intro j hj
        have hj0 : j < 2 := by simpa using hj
        rw [hz1, Joins.cell_of_block h2]
        simp; omega)
      (by intro j hj; simp [World.frozen?, h2])
    rw [hz1, Nat.zero_add, Nat.mul_one] at hr
    obtain ⟨r1, l1⟩ := ro_push (v := x) hR (by omega) (by omega) hx h4k
    obtain ⟨r2, l2⟩ := ro_push (v := y) r1 (by omega) (by omega) hy (by omega)
    exact ⟨g, c, _, hr, LeC.trans _ _ _ l1 l2, r2⟩
  · obtain ⟨v, W', hr, k2, k3⟩ := run_append_arg_grows (P := Tryz.prog) W 22 ty 3 i0 (.int .i64 0) 1 8 Tryz.underlying22 hi hz0 hz1 hz2 rfl (by decide) ⟨g, 0, none⟩ k c (iis (L.take k)) (by simp [iis]; omega)
      (fun j u hj => by
        have hj' : j < k := by
          rcases Nat.lt_or_ge j k with h' | h'
          · exact h'
          · rw [List.getElem?_eq_none (by simp [iis]; omega)] at hj; cases hj
        rw [add_plain', Nat.zero_add, Joins.cell_of_block h2]
        rw [← h6, List.getElem?_take_of_lt hj'] at hj
        simpa using hj)
      ⟨b, off, none⟩ 2 cb [.int .i64 x, .int .i64 y] rfl (fun j u hj => by rw [add_plain']; exact hb j u hj) (by omega) (by unfold maxLen; omega) (by omega)
    obtain ⟨g2, cap2, rfl⟩ := Joins.ownsRow_form k2 (by omega)
    have hge := own_ge k2 g2 rfl
    have e1 : iis (L.take k) ++ [Value.int .i64 x, Value.int .i64 y] = iis (L.take (k + 2)) := by
      apply List.ext_getElem?
      intro j
      rw [iis_at]
      rcases Nat.lt_or_ge j k with hj | hj
      · rw [List.getElem?_append_left (by simp [iis]; omega), iis_at, List.getElem?_take_of_lt hj, List.getElem?_take_of_lt (by omega)]
      · rw [List.getElem?_append_right (by simp [iis]; omega)]
        have e2 : (iis (L.take k)).length = k := by simp [iis]; omega
        rw [e2]
        rcases Nat.lt_or_ge j (k + 2) with hj2 | hj2
        · rw [List.getElem?_take_of_lt hj2]
          obtain rfl | rfl : j = k ∨ j = k + 1 := by omega
          · rw [Nat.sub_self, hx]; rfl
          · rw [show k + 1 - k = 1 by omega, hy]; rfl
        · rw [List.getElem?_eq_none (by simp; omega), List.getElem?_eq_none (by rw [List.length_take]; omega)]; rfl
    rw [e1] at k2
    have hlow : W'.ownsRow B 3 1 (.slice (some ⟨g2, 0, none⟩) (k + 2) cap2) (k + 2) (iis (L.take (k + 2))) := ownsRow_low k2 hR.1
    have hl' : (L.take (k + 2)).length = k + 2 := by rw [List.length_take]; omega
    exact ⟨g2, cap2, W', hr, LeC.of_below _ _ ((Below.refl _ _).grown k3 (Nat.le_refl _) (fun k e => by cases e)), ⟨Nat.le_trans hR.1 k3.size, fun y e => by cases e; exact ⟨Nat.le_trans hR.1 hge, own_lt' k2⟩, by rw [hl']; exact hlow⟩⟩
def catR (B : Nat) (L : List Int) (k : Nat) : Rl := fun v _ W => ∃ g c, v = .slice (some ⟨g, 0, none⟩) k c ∧ Ro B (L.take k) (some ⟨g, 0, none⟩) c W
theorem catR_k {ds : List (List Nat)} {i k : Nat} : KeepsL (LeC B L) ds i (catR B L k) :=
  ⟨fun v s W W' h hr => by obtain ⟨g, c, e, hR⟩ := hr; exact ⟨g, c, e, hR.leC h⟩, fun _ _ _ _ _ h => h⟩
theorem rowC_k {ds : List (List Nat)} {i n : Nat} {cs : Array Value} (hc : decide (cs.size ≤ 4) = true := by rfl) : KeepsL (LeC B L) ds i (row i n cs 3) :=
  ⟨fun v s W W' h hr => ⟨hr.1, by
    obtain ⟨cur', k1, k2, k3⟩ := h.cells _ _ hr.2
    have e : cur' = cs := by
      apply Array.ext_getElem?
      intro j
      rcases k3 j with e | ⟨e1, e2, -⟩
      · exact e
      · have := of_decide_eq_true hc; omega
    rw [← e]; exact k1⟩, fun v s s' W e h => by have := e i (by simp); unfold row at *; rw [← this]; exact h⟩
end
end Go.Proofs.YthnediamopehfaaGreat
