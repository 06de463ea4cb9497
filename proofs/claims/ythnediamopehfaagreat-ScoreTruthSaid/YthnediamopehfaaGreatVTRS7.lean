/- Part of the proof: what the claim leans on. -/
import Derived.Test.YthnediamopehfaaGreatVTRL6
import Derived.Deep.MidRow
set_option maxHeartbeats 2000000
set_option maxRecDepth 100000
set_option linter.unusedSimpArgs false
set_option linter.unusedVariables false
namespace Go.Proofs.YthnediamopehfaaGreat
theorem spanR_eq (lo hi least most : Int) : spanR lo hi least most = isSpan (lo, hi) least most := by
  unfold spanR isSpan within inB
  rw [Bool.eq_iff_iff]
  simp
  omega
theorem isSpan_iff {lo hi : Int} : isSpan (lo, hi) 1 10000 = true ↔ 1 ≤ lo ∧ lo ≤ hi ∧ hi ≤ 10000 := by
  rw [← spanR_eq]; unfold spanR inB; simp [and_assoc]
open Go.RowKit
def nthP (L : List (Int × Int)) (i : Nat) : Int × Int := L.getD i (0, 0)
def ShIn (x : Sh) : Prop :=
  (0 ≤ x.x0 ∧ x.x0 ≤ 255) ∧ (0 ≤ x.x1 ∧ x.x1 ≤ 255) ∧ (0 ≤ x.x2 ∧ x.x2 ≤ 255) ∧ (0 ≤ x.x3 ∧ x.x3 ≤ 255) ∧ (0 ≤ x.xh ∧ x.xh ≤ 255) ∧ (0 ≤ x.y0 ∧ x.y0 ≤ 255) ∧ (0 ≤ x.y1 ∧ x.y1 ≤ 255) ∧ (0 ≤ x.y2 ∧ x.y2 ≤ 255) ∧ (0 ≤ x.y3 ∧ x.y3 ≤ 255) ∧
    (0 ≤ x.ca ∧ x.ca ≤ 255) ∧ (0 ≤ x.cb ∧ x.cb ≤ 255) ∧ (0 ≤ x.v0 ∧ x.v0 ≤ 255) ∧ (0 ≤ x.v1 ∧ x.v1 ≤ 255) ∧ (0 ≤ x.v2 ∧ x.v2 ≤ 255) ∧ (0 ≤ x.v3 ∧ x.v3 ≤ 255) ∧ (0 ≤ x.v4 ∧ x.v4 ≤ 255)
theorem check_ok {tab p0 p1 p2 p3 hh t0 t1 u0 u1 sl : Int} {op : Bool} (gt : 0 ≤ tab ∧ tab ≤ 100) (gs : 0 ≤ sl ∧ sl ≤ 20) (gh : 1 ≤ hh ∧ hh ≤ 3000) (g0 : 1 ≤ p0 ∧ p0 ≤ 3000) (g1 : 1 ≤ p1 ∧ p1 ≤ 3000) (g2 : 1 ≤ p2 ∧ p2 ≤ 3000) (g3 : 1 ≤ p3 ∧ p3 ≤ 3000)
    (t0' : 0 ≤ t0 ∧ t0 ≤ 3000) (t1' : 0 ≤ t1 ∧ t1 ≤ 3000) (u0' : 0 ≤ u0 ∧ u0 ≤ 3000) (u1' : 0 ≤ u1 ∧ u1 ≤ 3000) (ho : op = true → t0 = 0 ∧ t1 = 0) : checkErr ⟨tab, [p0, p1, p2, p3], hh, [t0, t1], [u0, u1], sl, op⟩ = 0 := by
  unfold checkErr
  rw [if_neg, if_neg, if_neg]
  · simp only [Bool.and_eq_true, Bool.not_eq_true', not_and, Bool.not_eq_false, within]
    intro h
    obtain ⟨rfl, rfl⟩ := ho h
    decide
  · simp [numsOk, within, areLong]; omega
  · simp [lensOk]
theorem shBl_ok {x : Sh} (h : ShIn x) : checkErr (shBl x) = 0 := by
  obtain ⟨h0, h1, h2, h3, hh, a0, a1, a2, a3, -⟩ := h
  refine check_ok (by omega) (by omega) (by omega) (by omega) (by omega) (by omega) (by omega) ?_ ?_ (by omega) (by omega) fun e => by simp [e]
  · split <;> omega
  · split <;> omega
theorem twin_ok {b : Bl} (h : checkErr b = 0) : checkErr (twinB b) = 0 := by
  obtain ⟨⟨-, -, hl⟩, gt, gs, gh, ⟨gp0, gp1, gp2, gp3⟩, gt0, gt1, gu0, gu1⟩ := good_nums h
  obtain ⟨tab, p, hh, t, u, sl, op⟩ := b
  obtain ⟨u0, u1, rfl⟩ := list_two hl
  simp only [List.getD_cons_zero, List.getD_cons_succ] at gu0 gu1
  unfold twinB
  cases op with
  | true => exact check_ok gt gs gh gp0 gp1 gp0 gp1 (by omega) (by omega) gu0 gu1 fun _ => ⟨rfl, rfl⟩
  | false => exact check_ok gt gs gh gp0 gp1 gp0 gp1 gu0 gu1 gu0 gu1 nofun
theorem limS_ok {s : Sp} {least most : Int} (h : s.1 ≤ s.2) (hl : least ≤ most) : isSpan (limS s least most) least most = true := by
  unfold limS isSpan within
  simp only [List.any_cons, List.any_nil, Bool.or_false, Bool.and_eq_true, Bool.not_eq_true', Bool.or_eq_false_iff, decide_eq_false_iff_not, decide_eq_true_eq]
  omega
theorem around_le {lo hi wd : Int} (h : lo ≤ hi) (hw : 0 ≤ wd) : (aroundS lo hi wd).1 ≤ (aroundS lo hi wd).2 := by
  unfold aroundS dn upw; simp only; omega
theorem micros_le (b : Bl) {lo hi : Int} (h : lo ≤ hi) (k : Nat) : (microsOf b hi).getD k 0 ≤ (microsOf b lo).getD k 0 := by
  unfold microsOf
  match k with
  | 0 => simp only [List.getD_cons_zero]; omega
  | 1 => simp only [List.getD_cons_zero, List.getD_cons_succ]; omega
  | 2 => simp only [List.getD_cons_zero, List.getD_cons_succ]; omega
  | 3 => simp only [List.getD_cons_zero, List.getD_cons_succ]; omega
  | 4 => simp only [List.getD_cons_zero, List.getD_cons_succ]; split <;> omega
  | 5 => simp only [List.getD_cons_zero, List.getD_cons_succ]; omega
  | 6 => simp only [List.getD_cons_zero, List.getD_cons_succ]; omega
  | 7 => simp only [List.getD_cons_zero, List.getD_cons_succ]; omega
  | 8 => simp only [List.getD_cons_zero, List.getD_cons_succ]; omega
  | n + 9 => simp [List.getD_eq_getElem?_getD]
theorem wish_ok (x : Sh) (b : Bl) {lo hi : Int} (h : lo ≤ hi) : wishErr (wishOf x b lo hi) = 0 := by
  unfold wishErr wishOf
  simp only
  rw [limS_ok (around_le (micros_le b h 0) (by omega)) (by decide), limS_ok (around_le (micros_le b h 1) (by omega)) (by decide), limS_ok (around_le (micros_le b h 4) (by omega)) (by decide), limS_ok (around_le (micros_le b h 7) (by omega)) (by decide), limS_ok (around_le (micros_le b h 8) (by omega)) (by decide)]
  rfl
theorem wished_ok {b : Bl} {w : Wi} {lo hi : Int} (h1 : checkErr b = 0) (h2 : wishErr w = 0) (h3 : 1 ≤ lo) (h4 : lo ≤ hi) (h5 : hi ≤ 10000) : wishedErr b w [(lo, hi)] = 0 := by
  unfold wishedErr checkedErr
  rw [if_pos h1, if_pos h2]
  have : isSpan (lo, hi) 1 10000 = true := by
    unfold isSpan within
    simp only [List.any_cons, List.any_nil, Bool.or_false, Bool.and_eq_true, Bool.not_eq_true', Bool.or_eq_false_iff, decide_eq_false_iff_not, decide_eq_true_eq]
    omega
  simp [this]
theorem wished_nil {b : Bl} {w : Wi} (h1 : checkErr b = 0) (h2 : wishErr w = 0) : wishedErr b w [] = 0 := by
  unfold wishedErr checkedErr
  rw [if_pos h1, if_pos h2]; rfl
theorem bad_none {b : Bl} {w : Wi} {lo hi : Int} (h : lo ≤ hi) {k : Nat} : badOf b w (lo, hi) k = none ↔ (holdsOf b w k).1 ≤ lo ∧ hi ≤ (holdsOf b w k).2 := by
  unfold badOf
  simp only
  by_cases h1 : (holdsOf b w k).1 ≤ lo ∧ lo ≤ (holdsOf b w k).2
  · rw [if_pos h1]
    by_cases h2 : (holdsOf b w k).2 + 1 ≤ hi
    · rw [if_pos h2]; simp; omega
    · rw [if_neg h2]; simp; omega
  · rw [if_neg h1, if_pos h]; simp; omega
theorem mem_close {b : Bl} {w : Wi} {s : Sp} {x : Int × Int} : x ∈ closeL b w s ↔ ∃ k, k < 10 ∧ badOf b w s k = some x := by
  unfold closeL closeTo
  rw [List.mem_filterMap]
  simp [List.mem_range]
theorem close_nil {b : Bl} {w : Wi} {lo hi : Int} (h : lo ≤ hi) : closeL b w (lo, hi) = [] ↔ ∀ k, k < 10 → (holdsOf b w k).1 ≤ lo ∧ hi ≤ (holdsOf b w k).2 := by
  rw [List.eq_nil_iff_forall_not_mem]
  constructor
  · intro h1 k hk
    refine (bad_none h).1 ?_
    cases e : badOf b w (lo, hi) k with
    | none => rfl
    | some x => exact absurd (mem_close.2 ⟨k, hk, e⟩) (h1 x)
  · intro h1 x hx
    obtain ⟨k, hk, e⟩ := mem_close.1 hx
    rw [(bad_none h).2 (h1 k hk)] at e
    cases e
theorem all_span {b : Bl} {w : Wi} {lo hi : Int} (h1 : 1 ≤ lo) (h2 : hi ≤ 10000) : ∀ n, (∀ k, k < n → (holdsOf b w k).1 ≤ lo ∧ hi ≤ (holdsOf b w k).2) ↔ (allTo b w n).1 ≤ lo ∧ hi ≤ (allTo b w n).2
  | 0 => by simp [allTo, every]; omega
  | n + 1 => by
    have ih := all_span (b := b) (w := w) h1 h2 n
    simp only [allTo, both]
    constructor
    · intro h
      have hn := h n (Nat.lt_succ_self n)
      have := ih.1 fun k hk => h k (Nat.lt_succ_of_lt hk)
      omega
    · intro h k hk
      rcases Nat.lt_or_ge k n with hlt | hge
      · exact ih.2 (by omega) k hlt
      · obtain rfl : k = n := by omega
        omega
theorem close_all {b : Bl} {w : Wi} {lo hi : Int} (h1 : 1 ≤ lo) (h : lo ≤ hi) (h2 : hi ≤ 10000) : closeL b w (lo, hi) = [] ↔ (allTo b w 10).1 ≤ lo ∧ hi ≤ (allTo b w 10).2 :=
  (close_nil h).trans (all_span h1 h2 10)
theorem close_cal {b : Bl} {w : Wi} {lo hi : Int} (hc : checkErr b = 0) (hw : wishErr w = 0) (h1 : 1 ≤ lo) (h : lo ≤ hi) (h2 : hi ≤ 10000) : closeL b w (lo, hi) = [] ↔ calErr b w = 0 ∧ (calOf b w).1 ≤ lo ∧ hi ≤ (calOf b w).2 := by
  rw [close_all h1 h h2]
  have hn := wished_nil hc hw
  unfold calOf calErr
  rw [if_pos hn]
  constructor
  · intro h3
    rw [if_neg (by omega), if_pos rfl]; exact ⟨rfl, h3⟩
  · rintro ⟨h3, h4⟩
    rw [h3, if_pos rfl] at h4
    exact h4
theorem shCal_in {x : Sh} (h : ShIn x) : 1 ≤ (shCal x).1 ∧ (shCal x).1 ≤ (shCal x).2 ∧ (shCal x).2 ≤ 10000 := by
  obtain ⟨-, -, -, -, -, -, -, -, -, a, b, -⟩ := h
  unfold shCal; simp only; omega
open Go.RowKit
theorem osure {P : Program} {ops : Array Oper} {Q : Exit → Act → World → Prop} {i j : Nat} {want : Bool} {a : Act} {W : World} {r : Value → World → Prop} {o : Oper} (ho : ops[i]? = some o) (hg : o.guard = some (j, want)) (hy : yielded ops a.tmps j = some want)
    (h : ∀ K : Act → World → Prop, (∀ v W', Below W.heap.size W W' → r v W' → K (a.put o.dst v) W') → o.wp P a W K Q) : OpDo P ops Q i a W r := by
  intro K hK
  unfold wpOp
  simp only [ho, Region.wanted, hg, hy]
  rw [ho] at hK
  rw [if_pos (by simp)]
  exact .inl (h K hK)
open Go.RowKit
theorem copy_own (a1 a2 a3 : Option Addr) (c1 c2 c3 : Nat) (tab p0 p1 p2 p3 hh t0 t1 u0 u1 sl : Int) (op : Bool) (w : World) (h1 : Ii w a1 4 c1 [p0, p1, p2, p3]) (h2 : Ii w a2 2 c2 [t0, t1]) (h3 : Ii w a3 2 c3 [u0, u1]) :
  Calls Tryz.prog 48 #[.agg #[.int .i64 tab, .slice a1 4 c1, .int .i64 hh, .slice a2 2 c2, .slice a3 2 c3, .int .i64 sl, .bool op]] w (OwBlkP ⟨tab, [p0, p1, p2, p3], hh, [t0, t1], [u0, u1], sl, op⟩ w) := by
 refine calls_fr Tryz.func48 Tryz.ntmps48 rfl rfl fun g hg => ?_
 have k0 : g 0 = .agg #[.int .i64 tab, .slice a1 4 c1, .int .i64 hh, .slice a2 2 c2, .slice a3 2 c3, .int .i64 sl, .bool op] := hg 0
 clear hg
 have fB0 : Below w.heap.size w w := Below.refl _ _
 refine rw_ 2 [(1, 0), (2, 1)] [[], []] (rel [bx 0 #[.int .i64 tab, .slice a1 4 c1, .int .i64 hh, .slice a2 2 c2, .slice a3 2 c3, .int .i64 sl, .bool op] 24, bx 1 #[.int .i64 0, .slice none 0 0, .int .i64 0, .slice none 0 0, .slice none 0 0, .int .i64 0, .bool false] 24])
  ⟨fun f s W c d i j l a => opb rfl rfl (by simp [go_sem, a.e 0 k0]),
  fun f s W c d i j l a => opb rfl rfl (by simp [go_sem]), trivial⟩ ?_
 intro f1 s1 W1 hB1 g1 hg1 z1
 have fB1 := hB1.f fB0
 obtain ⟨r1_0, br1_0⟩ := hB1.is 0
 have lr1_0 := hB1.lr 0 br1_0
 obtain ⟨r1_1, br1_1⟩ := hB1.is 1
 have lr1_1 := hB1.lr 1 br1_1
 have ne1_0_1 := hB1.nb 0 1
 have k1_1 := kt hg1 1 r1_0
 refine wp_seq_k fun K2 hK2 => ?_
 refine rz 13 [(3, 0), (4, 1), (5, 2), (6, 3), (7, 4), (8, 5), (9, 6), (10, 7), (11, 8), (12, 9), (13, 10), (14, 11), (15, 12), (16, 14), (17, 16)] [[], [], [1], [0, 2], [], [], [5], [4, 6], [], [], [9], [4, 7, 8, 10], [], [0, 1, 2, 3, 4, 5, 6, 7, 8, 9, 10, 11, 12], [0, 1, 2, 3, 4, 5, 6, 7, 8, 9, 10, 11, 12, 13], [0, 1, 2, 3, 4, 5, 6, 7, 8, 9, 10, 11, 12, 13, 14], [0, 1, 2, 3, 4, 5, 6, 7, 8, 9, 10, 11, 12, 13, 14, 15], [0, 1, 2, 3, 4, 5, 6, 7, 8, 9, 10, 11, 12, 13, 14, 15, 16]] (rel [row 0 0 #[] 3, is (.pointer (some ⟨(s1 0), 1, none⟩)), is (.slice a1 4 c1), fun v s W => OwI (s 3) ([p0, p1, p2, p3]) 4 v W, row 4 0 #[] 3, is (.pointer (some ⟨(s1 0), 3, none⟩)), is (.slice a2 2 c2), fun v s W => OwI (s 7) ([t0, t1]) 2 v W, row 8 0 #[] 3, is (.pointer (some ⟨(s1 0), 4, none⟩)), is (.slice a3 2 c3), fun v s W => OwI (s 11) ([u0, u1]) 2 v W, is (.pointer (some ⟨(s1 0), 1, none⟩))])
  ⟨row_k, is_k, is_k, ⟨fun v k W W' hb h => h.below hb, fun v s s' W e h => by have h' : OwI (s 3) ([p0, p1, p2, p3]) 4 v W := h; show OwI (s' 3) ([p0, p1, p2, p3]) 4 v W; rw [← e 3 (by simp)]; exact h'⟩, row_k, is_k, is_k, ⟨fun v k W W' hb h => h.below hb, fun v s s' W e h => by have h' : OwI (s 7) ([t0, t1]) 2 v W := h; show OwI (s' 7) ([t0, t1]) 2 v W; rw [← e 7 (by simp)]; exact h'⟩, row_k, is_k, is_k, ⟨fun v k W W' hb h => h.below hb, fun v s s' W e h => by have h' : OwI (s 11) ([u0, u1]) 2 v W := h; show OwI (s' 11) ([u0, u1]) 2 v W; rw [← e 11 (by simp)]; exact h'⟩, is_k, trivial⟩
  ⟨fun f s W c d i j l a => opr rfl rfl (by simp [go_sem]),
  fun f s W c d i j l a => opv rfl rfl (by simp [go_sem, a.e 1 k1_1]) rfl,
  fun f s W c d i j l a => opv rfl rfl (by simp [go_sem, a.e 4 (d 1 rfl), cb br1_0 c 1]) rfl,
  fun f s W c d i j l a => by have m := bwt fB1 c; obtain ⟨v_, W_, r_, b_, i_⟩ := cloneO_run 22 W (s 0) (a1) (c1) ([p0, p1, p2, p3]) 4 ((h1.below m (Nat.le_refl _))) ((by decide)) ((by decide)) (d 0 rfl).2; exact opDo_value rfl rfl (run_appendOp (a.v 3 (d 0 rfl).1) (a.v 5 (d 2 rfl)) r_) b_ (show OwI (upd s 3 W.heap.size 3) ([p0, p1, p2, p3]) 4 v_ W_ from by rw [upd_at]; exact i_),
  fun f s W c d i j l a => opr rfl rfl (by simp [go_sem]),
  fun f s W c d i j l a => opv rfl rfl (by simp [go_sem, a.e 1 k1_1]) rfl,
  fun f s W c d i j l a => opv rfl rfl (by simp [go_sem, a.e 8 (d 5 rfl), cb br1_0 c 3]) rfl,
  fun f s W c d i j l a => by have m := bwt fB1 c; obtain ⟨v_, W_, r_, b_, i_⟩ := cloneO_run 22 W (s 4) (a2) (c2) ([t0, t1]) 2 ((h2.below m (Nat.le_refl _))) ((by decide)) ((by decide)) (d 4 rfl).2; exact opDo_value rfl rfl (run_appendOp (a.v 7 (d 4 rfl).1) (a.v 9 (d 6 rfl)) r_) b_ (show OwI (upd s 7 W.heap.size 7) ([t0, t1]) 2 v_ W_ from by rw [upd_at]; exact i_),
  fun f s W c d i j l a => opr rfl rfl (by simp [go_sem]),
  fun f s W c d i j l a => opv rfl rfl (by simp [go_sem, a.e 1 k1_1]) rfl,
  fun f s W c d i j l a => opv rfl rfl (by simp [go_sem, a.e 12 (d 9 rfl), cb br1_0 c 4]) rfl,
  fun f s W c d i j l a => by have m := bwt fB1 c; obtain ⟨v_, W_, r_, b_, i_⟩ := cloneO_run 22 W (s 8) (a3) (c3) ([u0, u1]) 2 ((h3.below m (Nat.le_refl _))) ((by decide)) ((by decide)) (d 8 rfl).2; exact opDo_value rfl rfl (run_appendOp (a.v 11 (d 8 rfl).1) (a.v 13 (d 10 rfl)) r_) b_ (show OwI (upd s 11 W.heap.size 11) ([u0, u1]) 2 v_ W_ from by rw [upd_at]; exact i_),
  fun f s W c d i j l a => opv rfl rfl (by simp [go_sem, a.e 1 k1_1]) rfl, trivial⟩ ?_
 intro f2 s2 W2 hB2 g2 hg2 z2
 have fB2 := hB2.f fB1
 have b2_0 := hB2.b br1_0
 have b2_1 := hB2.b br1_1
 obtain ⟨r2_0, br2_0⟩ := hB2.is 0
 have lr2_0 := hB2.lr 0 br2_0
 obtain ⟨g1', c2', r2_3, q3'⟩ := hB2.is 3
 have la2_3 := hB2.from' 3 (by decide)
 have lo2_3_o := q3'.lim
 have q4' := q3'.low (B' := w.heap.size) (Nat.le_trans fB1.size (la2_3))
 obtain ⟨r2_4, br2_4⟩ := hB2.is 4
 have lr2_4 := hB2.lr 4 br2_4
 obtain ⟨g5', c6', r2_7, q7'⟩ := hB2.is 7
 have la2_7 := hB2.from' 7 (by decide)
 have lo2_7_o := q7'.lim
 have q8' := q7'.low (B' := w.heap.size) (Nat.le_trans fB1.size (la2_7))
 obtain ⟨r2_8, br2_8⟩ := hB2.is 8
 have lr2_8 := hB2.lr 8 br2_8
 obtain ⟨g9', c10', r2_11, q11'⟩ := hB2.is 11
 have la2_11 := hB2.from' 11 (by decide)
 have lo2_11_o := q11'.lim
 have q12' := q11'.low (B' := w.heap.size) (Nat.le_trans fB1.size (la2_11))
 have oo2_3_o_0 := hB2.off 3 0 (by decide) (by decide) (by decide) lo2_3_o.1 (fun W h => OwI.lt h r2_3) (fun _ _ _ h => ltb h.2)
 have oo2_3_o_4 := hB2.off 3 4 (by decide) (by decide) (by decide) lo2_3_o.1 (fun W h => OwI.lt h r2_3) (fun _ _ _ h => ltb h.2)
 have oo2_3_o_8 := hB2.off 3 8 (by decide) (by decide) (by decide) lo2_3_o.1 (fun W h => OwI.lt h r2_3) (fun _ _ _ h => ltb h.2)
 have oo2_7_o_0 := hB2.off 7 0 (by decide) (by decide) (by decide) lo2_7_o.1 (fun W h => OwI.lt h r2_7) (fun _ _ _ h => ltb h.2)
 have oo2_7_o_4 := hB2.off 7 4 (by decide) (by decide) (by decide) lo2_7_o.1 (fun W h => OwI.lt h r2_7) (fun _ _ _ h => ltb h.2)
 have oo2_7_o_8 := hB2.off 7 8 (by decide) (by decide) (by decide) lo2_7_o.1 (fun W h => OwI.lt h r2_7) (fun _ _ _ h => ltb h.2)
 have ow2_7_o_3_o := hB2.two 7 3 (by decide) (by decide) (by decide) lo2_7_o.1 lo2_3_o.1 (fun W h => OwI.lt h r2_7) (fun W h => OwI.lt h r2_3)
 have oo2_11_o_0 := hB2.off 11 0 (by decide) (by decide) (by decide) lo2_11_o.1 (fun W h => OwI.lt h r2_11) (fun _ _ _ h => ltb h.2)
 have oo2_11_o_4 := hB2.off 11 4 (by decide) (by decide) (by decide) lo2_11_o.1 (fun W h => OwI.lt h r2_11) (fun _ _ _ h => ltb h.2)
 have oo2_11_o_8 := hB2.off 11 8 (by decide) (by decide) (by decide) lo2_11_o.1 (fun W h => OwI.lt h r2_11) (fun _ _ _ h => ltb h.2)
 have ow2_11_o_3_o := hB2.two 11 3 (by decide) (by decide) (by decide) lo2_11_o.1 lo2_3_o.1 (fun W h => OwI.lt h r2_11) (fun W h => OwI.lt h r2_3)
 have ow2_11_o_7_o := hB2.two 11 7 (by decide) (by decide) (by decide) lo2_11_o.1 lo2_7_o.1 (fun W h => OwI.lt h r2_11) (fun W h => OwI.lt h r2_7)
 have ne2_0_4 := hB2.nb 0 4
 have ne2_0_8 := hB2.nb 0 8
 have ne2_4_8 := hB2.nb 4 8
 have k2_1 := kt hg2 1 k1_1
 have k2_6 := kt hg2 6 r2_3
 have k2_15 := kt hg2 15 (hB2.is 12)
 obtain ⟨W3, hW3⟩ : ∃ W', W' = W2.setRow (s1 0) #[.int .i64 tab, .slice (some ⟨g1', 0, none⟩) 4 c2', .int .i64 hh, .slice a2 2 c2, .slice a3 2 c3, .int .i64 sl, .bool op] := ⟨_, rfl⟩
 refine tsk (o := _) rfl ⟨rfl, rfl⟩ (run_seg hW3 (fr_ev k2_15) (fr_ev k2_6) b2_0 rfl rfl rfl rfl) ?_
 obtain ⟨fB3, nb3, ot3, z3⟩ := sgf hW3 fB2 b2_0 (by omega)
 clear hW3
 have b3_1 := ot3 _ _ (by omega) b2_1
 have q13' := q4'.other ot3 (by omega) z3
 have q14' := q8'.other ot3 (by omega) z3
 have q15' := q12'.other ot3 (by omega) z3
 refine tail_value (o := _) rfl rfl rfl (v := .pointer (some ⟨(s1 0), 3, none⟩)) (by simp [go_sem, frv 19 k2_1]) ?_
 generalize hg4 : upd g2 16 (.pointer (some ⟨(s1 0), 3, none⟩)) = g4
 have k4_1 := ku hg4 1 k2_1
 have k4_10 := ku hg4 10 (kt hg2 10 r2_7)
 have k4_16 := kt hg4 16 (upd_same _ _ _)
 obtain ⟨W5, hW5⟩ : ∃ W', W' = W3.setRow (s1 0) #[.int .i64 tab, .slice (some ⟨g1', 0, none⟩) 4 c2', .int .i64 hh, .slice (some ⟨g5', 0, none⟩) 2 c6', .slice a3 2 c3, .int .i64 sl, .bool op] := ⟨_, rfl⟩
 refine tsk (o := _) rfl ⟨rfl, rfl⟩ (run_seg hW5 (fr_ev k4_16) (fr_ev k4_10) nb3 rfl rfl rfl rfl) ?_
 obtain ⟨fB5, nb5, ot5, z5⟩ := sgf hW5 fB3 nb3 (by omega)
 clear hW5
 have b5_1 := ot5 _ _ (by omega) b3_1
 have q16' := q13'.other ot5 (by omega) z5
 have q17' := q14'.other ot5 (by omega) z5
 have q18' := q15'.other ot5 (by omega) z5
 refine tail_value (o := _) rfl rfl rfl (v := .pointer (some ⟨(s1 0), 4, none⟩)) (by simp [go_sem, frv 19 k4_1]) ?_
 generalize hg6 : upd g4 17 (.pointer (some ⟨(s1 0), 4, none⟩)) = g6
 have k6_1 := ku hg6 1 k4_1
 have k6_14 := ku hg6 14 (ku hg4 14 (kt hg2 14 r2_11))
 have k6_17 := kt hg6 17 (upd_same _ _ _)
 obtain ⟨W7, hW7⟩ : ∃ W', W' = W5.setRow (s1 0) #[.int .i64 tab, .slice (some ⟨g1', 0, none⟩) 4 c2', .int .i64 hh, .slice (some ⟨g5', 0, none⟩) 2 c6', .slice (some ⟨g9', 0, none⟩) 2 c10', .int .i64 sl, .bool op] := ⟨_, rfl⟩
 refine tsk (o := _) rfl ⟨rfl, rfl⟩ (run_seg hW7 (fr_ev k6_17) (fr_ev k6_14) nb5 rfl rfl rfl rfl) ?_
 obtain ⟨fB7, nb7, ot7, z7⟩ := sgf hW7 fB5 nb5 (by omega)
 clear hW7
 have b7_1 := ot7 _ _ (by omega) b5_1
 have q19' := q16'.other ot7 (by omega) z7
 have q20' := q17'.other ot7 (by omega) z7
 have q21' := q18'.other ot7 (by omega) z7
 refine wpe ?_
 refine hK2 _ _ ?_
 refine wp_seq_k fun K3 hK3 => ?_
 refine ry 1 [(18, 0)] [[], [0]] (rel [is (.agg #[.int .i64 tab, .slice (some ⟨g1', 0, none⟩) 4 c2', .int .i64 hh, .slice (some ⟨g5', 0, none⟩) 2 c6', .slice (some ⟨g9', 0, none⟩) 2 c10', .int .i64 sl, .bool op])])
  ⟨fun f s W c d i j l a => opv rfl rfl (by simp [go_sem, a.e 1 k6_1, cb nb7 c 0, cb nb7 c 1, cb nb7 c 2, cb nb7 c 3, cb nb7 c 4, cb nb7 c 5, cb nb7 c 6]) rfl, trivial⟩ ?_
 intro f8 s8 W8 hB8 g8 hg8 z8
 have fB8 := hB8.f fB7
 have b8_1 := hB8.b b7_1
 have q22' := (q19'.below hB8.below)
 have q23' := (q20'.below hB8.below)
 have q24' := (q21'.below hB8.below)
 have k8_2 := kt hg8 2 (ku hg6 2 (ku hg4 2 (kt hg2 2 (kt hg1 2 r1_1))))
 have k8_18 := kt hg8 18 (hB8.is 0)
 obtain ⟨W9, hW9⟩ : ∃ W', W' = W8.setRow (s1 1) #[.int .i64 tab, .slice (some ⟨g1', 0, none⟩) 4 c2', .int .i64 hh, .slice (some ⟨g5', 0, none⟩) 2 c6', .slice (some ⟨g9', 0, none⟩) 2 c10', .int .i64 sl, .bool op] := ⟨_, rfl⟩
 refine tsk (o := _) rfl ⟨rfl, rfl⟩ (run_seg hW9 (fr_ev k8_2) (fr_ev k8_18) b8_1 rfl rfl rfl rfl) ?_
 obtain ⟨fB9, nb9, ot9, z9⟩ := sgf hW9 fB8 b8_1 (by omega)
 clear hW9
 have q25' := q22'.other ot9 (by omega) z9
 have q26' := q23'.other ot9 (by omega) z9
 have q27' := q24'.other ot9 (by omega) z9
 refine wpe ?_
 refine hK3 _ _ ?_
 refine wp_ret ?_
 refine leave_gen (v := .agg #[.int .i64 tab, .slice (some ⟨g1', 0, none⟩) 4 c2', .int .i64 hh, .slice (some ⟨g5', 0, none⟩) 2 c6', .slice (some ⟨g9', 0, none⟩) 2 c10', .int .i64 sl, .bool op]) (.inr rfl) (by simp [results, Tryz.results48, go_sem, frv 19 k8_2, cl nb9 0, cl nb9 1, cl nb9 2, cl nb9 3, cl nb9 4, cl nb9 5, cl nb9 6]) ?_
 exact ⟨_, rfl, ⟨_, _, _, _, _, _, rfl, q25', q26', q27', by omega, by omega, by omega⟩, fB9⟩
theorem own_own (a1 a2 a3 : Option Addr) (c1 c2 c3 : Nat) (tab p0 p1 p2 p3 hh t0 t1 u0 u1 sl : Int) (op : Bool) (w : World) (h1 : Ii w a1 4 c1 [p0, p1, p2, p3]) (h2 : Ii w a2 2 c2 [t0, t1]) (h3 : Ii w a3 2 c3 [u0, u1]) :
  Calls Tryz.prog 13 #[.agg #[.int .i64 tab, .slice a1 4 c1, .int .i64 hh, .slice a2 2 c2, .slice a3 2 c3, .int .i64 sl, .bool op]] w (OwBlkP ⟨tab, [p0, p1, p2, p3], hh, [t0, t1], [u0, u1], sl, op⟩ w) := by
 refine calls_fr Tryz.func13 Tryz.ntmps13 rfl rfl fun g hg => ?_
 have k0 : g 0 = .agg #[.int .i64 tab, .slice a1 4 c1, .int .i64 hh, .slice a2 2 c2, .slice a3 2 c3, .int .i64 sl, .bool op] := hg 0
 clear hg
 have fB0 : Below w.heap.size w w := Below.refl _ _
 refine rw_ 2 [(1, 0), (2, 1)] [[], []] (rel [bx 0 #[.int .i64 tab, .slice a1 4 c1, .int .i64 hh, .slice a2 2 c2, .slice a3 2 c3, .int .i64 sl, .bool op] 24, bx 1 #[.int .i64 0, .slice none 0 0, .int .i64 0, .slice none 0 0, .slice none 0 0, .int .i64 0, .bool false] 24])
  ⟨fun f s W c d i j l a => opb rfl rfl (by simp [go_sem, a.e 0 k0]),
  fun f s W c d i j l a => opb rfl rfl (by simp [go_sem]), trivial⟩ ?_
 intro f1 s1 W1 hB1 g1 hg1 z1
 have fB1 := hB1.f fB0
 obtain ⟨r1_0, br1_0⟩ := hB1.is 0
 have lr1_0 := hB1.lr 0 br1_0
 obtain ⟨r1_1, br1_1⟩ := hB1.is 1
 have lr1_1 := hB1.lr 1 br1_1
 have ne1_0_1 := hB1.nb 0 1
 have k1_1 := kt hg1 1 r1_0
 refine wp_seq_k fun K2 hK2 => ?_
 refine rz 2 [(3, 0), (4, 1)] [[], [0], [0, 1]] (rel [is (.agg #[.int .i64 tab, .slice a1 4 c1, .int .i64 hh, .slice a2 2 c2, .slice a3 2 c3, .int .i64 sl, .bool op]), fun v s W => OwBlk (s 1) (⟨tab, [p0, p1, p2, p3], hh, [t0, t1], [u0, u1], sl, op⟩) v W])
  ⟨is_k, ⟨fun v k W W' hb h => h.below hb, fun v s s' W e h => by have h' : OwBlk (s 1) (⟨tab, [p0, p1, p2, p3], hh, [t0, t1], [u0, u1], sl, op⟩) v W := h; show OwBlk (s' 1) (⟨tab, [p0, p1, p2, p3], hh, [t0, t1], [u0, u1], sl, op⟩) v W; rw [← e 1 (by simp)]; exact h'⟩, trivial⟩
  ⟨fun f s W c d i j l a => opv rfl rfl (by simp [go_sem, a.e 1 k1_1, cb br1_0 c 0, cb br1_0 c 1, cb br1_0 c 2, cb br1_0 c 3, cb br1_0 c 4, cb br1_0 c 5, cb br1_0 c 6]) rfl,
  fun f s W c d i j l a => by have m := bwt fB1 c; exact opd rfl rfl (by simp [go_sem, a.e 3 (d 0 rfl)]) (copy_own a1 a2 a3 c1 c2 c3 tab p0 p1 p2 p3 hh t0 t1 u0 u1 sl op W (h1.below m (Nat.le_refl _)) (h2.below m (Nat.le_refl _)) (h3.below m (Nat.le_refl _))) (fun e W' h => by obtain ⟨v, e1, h1, h2⟩ := h; exact ⟨v, e1, h2, (show OwBlk (upd s 1 W.heap.size 1) (⟨tab, [p0, p1, p2, p3], hh, [t0, t1], [u0, u1], sl, op⟩) v W' from by rw [upd_at]; exact h1)⟩), trivial⟩ ?_
 intro f2 s2 W2 hB2 g2 hg2 z2
 have fB2 := hB2.f fB1
 have b2_1 := hB2.b br1_1
 obtain ⟨g28', c31', g29', c32', g30', c33', r2_1, q34', q35', q36', q37', q38', q39'⟩ := hB2.is 1
 have la2_1 := hB2.from' 1 (by decide)
 have lo2_1_o0 := q34'.lim
 have q40' := q34'.low (B' := w.heap.size) (Nat.le_trans fB1.size (la2_1))
 have lo2_1_o1 := q35'.lim
 have q41' := q35'.low (B' := w.heap.size) (Nat.le_trans fB1.size (la2_1))
 have lo2_1_o2 := q36'.lim
 have q42' := q36'.low (B' := w.heap.size) (Nat.le_trans fB1.size (la2_1))
 have k2_2 := kt hg2 2 (kt hg1 2 r1_1)
 have k2_4 := kt hg2 4 r2_1
 obtain ⟨W3, hW3⟩ : ∃ W', W' = W2.setRow (s1 1) #[.int .i64 tab, .slice (some ⟨g28', 0, none⟩) 4 c31', .int .i64 hh, .slice (some ⟨g29', 0, none⟩) 2 c32', .slice (some ⟨g30', 0, none⟩) 2 c33', .int .i64 sl, .bool op] := ⟨_, rfl⟩
 refine tsk (o := _) rfl ⟨rfl, rfl⟩ (run_seg hW3 (fr_ev k2_2) (fr_ev k2_4) b2_1 rfl rfl rfl rfl) ?_
 obtain ⟨fB3, nb3, ot3, z3⟩ := sgf hW3 fB2 b2_1 (by omega)
 clear hW3
 have q43' := q40'.other ot3 (by omega) z3
 have q44' := q41'.other ot3 (by omega) z3
 have q45' := q42'.other ot3 (by omega) z3
 refine wpe ?_
 refine hK2 _ _ ?_
 refine wp_ret ?_
 refine leave_gen (v := .agg #[.int .i64 tab, .slice (some ⟨g28', 0, none⟩) 4 c31', .int .i64 hh, .slice (some ⟨g29', 0, none⟩) 2 c32', .slice (some ⟨g30', 0, none⟩) 2 c33', .int .i64 sl, .bool op]) (.inr rfl) (by simp [results, Tryz.results13, go_sem, frv 5 k2_2, cl nb3 0, cl nb3 1, cl nb3 2, cl nb3 3, cl nb3 4, cl nb3 5, cl nb3 6]) ?_
 exact ⟨_, rfl, ⟨_, _, _, _, _, _, rfl, q43', q44', q45', by omega, by omega, by omega⟩, fB3⟩
open Go.RowKit
structure LeT (B : Nat) (T : TypeId) (G : Array Value → World → Prop) (a b : World) : Prop where
  os : b.os = a.os
  tape : b.tape = a.tape
  output : b.output = a.output
  size : a.heap.size ≤ b.heap.size
  block : ∀ k x, a.heap[k]? = some x → (k < B ∨ ∀ cs, x ≠ .cells cs T (0, 0)) → b.heap[k]? = some x
  kind : ∀ k cs, B ≤ k → a.heap[k]? = some (.cells cs T (0, 0)) → ∃ cs', b.heap[k]? = some (.cells cs' T (0, 0)) ∧ cs'.size = cs.size ∧ (G cs a → G cs' b)
def GoodB (G : Array Value → World → Prop) : Prop := ∀ cs a b, Below a.heap.size a b → G cs a → G cs b
section
variable {B : Nat} {T : TypeId} {G : Array Value → World → Prop}
theorem LeT.refl (a : World) : LeT B T G a a := ⟨rfl, rfl, rfl, Nat.le_refl _, fun _ _ h _ => h, fun _ cs _ h => ⟨cs, h, rfl, fun g => g⟩⟩
theorem LeT.trans (a b c : World) (h : LeT B T G a b) (k : LeT B T G b c) : LeT B T G a c :=
  ⟨k.os.trans h.os, k.tape.trans h.tape, k.output.trans h.output, Nat.le_trans h.size k.size, fun i x hx hn => k.block i x (h.block i x hx hn) hn, fun i cs hi hx => by
    obtain ⟨cs1, h1, h2, h3⟩ := h.kind i cs hi hx
    obtain ⟨cs2, h4, h5, h6⟩ := k.kind i cs1 hi h1
    exact ⟨cs2, h4, h5.trans h2, fun g => h6 (h3 g)⟩⟩
theorem LeT.of_below (hG : GoodB G) (a b : World) (h : Below a.heap.size a b) : LeT B T G a b :=
  ⟨h.os, h.tape, h.output, h.size, fun k x hx _ => bwb hx h, fun k cs _ hx => ⟨cs, bwb hx h, rfl, fun g => hG cs a b h g⟩⟩
theorem LeT.drew (hG : GoodB G) (a : World) : LeT B T G a a.drew := LeT.of_below hG _ _ (Below.refl _ _).drew
theorem LeT.below {a b : World} (h : LeT B T G a b) (hB : B ≤ a.heap.size) : Below B a b :=
  ⟨h.os, h.tape, h.output, h.size, fun k hk => by
    have hx : a.heap[k]? = some a.heap[k] := Array.getElem?_eq_getElem (by omega)
    rw [hx]; exact h.block k _ hx (.inl hk)⟩
def boxT (B : Nat) (T : TypeId) (n i : Nat) : Rl := fun v s W => v = .pointer (some ⟨(s i), 0, none⟩) ∧ B ≤ s i ∧ ∃ cs, W.heap[s i]? = some (.cells cs T (0, 0)) ∧ cs.size = n
theorem boxT_k {ds : List (List Nat)} {n i : Nat} : KeepsL (LeT B T G) ds i (boxT B T n i) :=
  ⟨fun _ _ _ _ hb h => by
    obtain ⟨h1, h2, cs, h3, h4⟩ := h
    obtain ⟨cs', h5, h6, -⟩ := hb.kind _ cs h2 h3
    exact ⟨h1, h2, cs', h5, h6.trans h4⟩, fun v s s' W e h => by have := e i (by simp); unfold boxT at *; rw [← this]; exact h⟩
def stoT (B : Nat) (T : TypeId) (G : Array Value → World → Prop) (j : Nat) : Rl := fun _ s W => B ≤ s j ∧ ∃ cs, W.heap[s j]? = some (.cells cs T (0, 0)) ∧ G cs W
theorem stoT_k {ds : List (List Nat)} {i j : Nat} (hj : j ∈ i :: ds.getD i []) : KeepsL (LeT B T G) ds i (stoT B T G j) :=
  ⟨fun _ _ _ _ hb h => by
    obtain ⟨h2, cs, h3, h4⟩ := h
    obtain ⟨cs', h5, -, h6⟩ := hb.kind _ cs h2 h3
    exact ⟨h2, cs', h5, h6 h4⟩, fun v s s' W e h => by have := e j hj; unfold stoT at *; rw [← this]; exact h⟩
theorem OwnI.leT {B' : Nat} {xs : List Int} {g c : Nat} {W W' : World} (h : OwnI B' xs g c W) (hT : (T != 3) = true) (hb : LeT B T G W W') : OwnI B' xs g c W' := by
  have hT' : T ≠ 3 := bne_iff_ne.1 hT
  refine h.same hb.size ?_
  rcases h.2.2.2 with ⟨e, -⟩ | ⟨g', cap, cur, e, -, h6, -⟩
  · cases e
  · cases e
    rw [h6]
    exact hb.block _ _ h6 (.inr fun cs e => by simp only [Obj.cells.injEq] at e; exact hT' e.2.1.symm)
theorem TyBlk.leT {B' : Nat} {b : Bl} {v : Value} {W W' : World} (h : TyBlk B' b v W) (hT : (T != 3) = true) (hb : LeT B T G W W') : TyBlk B' b v W' := by
  obtain ⟨g1, c1, g2, c2, g3, c3, e, h1, h2, h3⟩ := h
  exact ⟨g1, c1, g2, c2, g3, c3, e, h1.leT hT hb, h2.leT hT hb, h3.leT hT hb⟩
theorem ty_k {ds : List (List Nat)} {i : Nat} {B' : Nat} {b : Bl} (hT : (T != 3) = true := by decide) : KeepsL (LeT B T G) ds i (ab fun v W => TyBlk B' b v W) :=
  ⟨fun _ _ _ _ hb h => TyBlk.leT h hT hb, fun _ _ _ _ _ h => h⟩
end
section
variable {P : Program} {ops : Array Oper} {Q : Exit → Act → World → Prop}
theorem opDoL_skip {Le : World → World → Prop} {i : Nat} {a : Act} {W W' : World} {R : Value → World → Prop} {o : Oper} (ho : ops[i]? = some o) (hg : o.guard = none ∧ o.dst = none) (hr : (execOp a.eval o).run P W = .ok .skip W') (hb : Le W W') (hR : R undef W') : OpDoL Le P ops Q i a W R := by
  intro K hK
  unfold wpOp
  simp only [ho, Region.wanted, hg.1, if_true]
  refine .inl ?_
  unfold Oper.wp
  rw [hr]
  have := hK undef W' hb hR
  rw [ho] at this
  simp only [Option.bind_some, hg.2] at this
  simp only [Oper.upon, hg.2]
  exact this
theorem opT {B : Nat} {T : TypeId} {G : Array Value → World → Prop} {i n : Nat} {a : Act} {W : World} {s : Nat → Nat} {cs : Array Value} {o : Oper} (hG : GoodB G) (hB : B ≤ W.heap.size) (ho : ops[i]? = some o) (hg : o.guard = none) (hr : (execOp a.eval o).run P W = .ok (.value (.pointer (some ⟨W.heap.size, 0, none⟩))) (W.alloc (.cells cs T))) (hn : cs.size = n) :
    OpDoL (LeT B T G) P ops Q i a W (fun v W' => boxT B T n i v (upd s i W.heap.size) W') :=
  opDoL_value ho hg hr (LeT.of_below hG _ _ (balloc1 _ _)) ⟨by rw [upd_at], by rw [upd_at]; exact hB, cs, by rw [upd_at]; exact blk_new rfl, hn⟩
theorem stoT_do {B : Nat} {T : TypeId} {G : Array Value → World → Prop} {i j n : Nat} {a : Act} {W : World} {s : Nat → Nat} {ty tt : TypeId} {x y : Operand} {pos : String} {af : Array Edge} {v : Value} (fin : Array Value) {g0 : Value}
    (ho : ops[i]? = some { dst := none, op := .store ty x y, type := tt, pos := pos, after := af, guard := none }) (hij : j ≠ i) (hbox : boxT B T n j g0 s W) (hx : a.eval x = .pointer (some ⟨(s j), 0, none⟩)) (hy : a.eval y = v) (hf : v.cells = fin) (hn : fin.size = n) (hi : (P.info? ty).map (·.size) = some n) (h1 : fin.toList.all (·.oneCell') = true) (hgood : G fin W) (hst : ∀ W', (∀ k x, k ≠ s j → W.heap[k]? = some x → W'.heap[k]? = some x) → W.heap.size ≤ W'.heap.size → G fin W → G fin W') (hst' : ∀ cs W', (∀ k x, k ≠ s j → W.heap[k]? = some x → W'.heap[k]? = some x) → W.heap.size ≤ W'.heap.size → (∃ cs0, W.heap[s j]? = some (.cells cs0 T (0, 0))) → G cs W → G cs W') :
    OpDoL (LeT B T G) P ops Q i a W (fun v W' => stoT B T G j v (upd s i W.heap.size) W') := by
  obtain ⟨-, hB, cs, hb, hsz⟩ := hbox
  subst hf
  have e : (cs.toList.take 0 ++ v.cells.toList ++ cs.toList.drop (0 + v.cells.size)).toArray = v.cells := by
    have : cs.toList.drop (0 + v.cells.size) = [] := List.drop_eq_nil_of_le (by simp; omega)
    rw [this]; simp
  have hr := run_seg (P := P) (a := a) (dst := none) (ty := ty) (tt := tt) (x := x) (y := y) (pos := pos) (af := af) (gd := none) (W' := W.setRow (s j) v.cells) rfl hx hy hb (by rw [hi, hn]) (decide_eq_true (by omega)) h1 e
  have hot : ∀ k x, k ≠ s j → W.heap[k]? = some x → (W.setRow (s j) v.cells).heap[k]? = some x := fun k x hk hx => by rw [setRow_other W (s j) k v.cells hk]; exact hx
  have hz : W.heap.size ≤ (W.setRow (s j) v.cells).heap.size := by rw [setRow_size]; exact Nat.le_refl _
  have hnew := setRow_heap W (s j) cs v.cells T (0, 0) hb
  refine opDoL_skip ho ⟨rfl, rfl⟩ hr ⟨rfl, rfl, rfl, hz, fun k x hk hn => ?_, fun k cs' hk hx => ?_⟩ ?_
  · by_cases e : k = s j
    · subst e
      rw [hb] at hk
      rcases hn with hn | hn
      · omega
      · exact absurd (Option.some.inj hk).symm (hn cs)
    · exact hot k x e hk
  · by_cases e : k = s j
    · subst e
      rw [hb] at hx
      have : cs = cs' := by simp only [Option.some.injEq, Obj.cells.injEq] at hx; exact hx.1
      subst this
      exact ⟨v.cells, hnew, by omega, fun _ => hst _ hot hz hgood⟩
    · exact ⟨cs', hot k _ e hx, rfl, fun g => hst' cs' _ hot hz ⟨cs, hb⟩ g⟩
  · show B ≤ (upd s i W.heap.size) j ∧ _
    rw [upd_other s _ hij]
    exact ⟨hB, v.cells, hnew, hst _ hot hz hgood⟩
end
def justC (fin : Array Value) (cs : Array Value) (_ : World) : Prop := cs = fin
theorem justC_b {fin : Array Value} : GoodB (justC fin) := fun _ _ _ _ h => h
def tyC (r : Bl) (cs : Array Value) (W : World) : Prop := TyBlk 0 r (.agg cs) W
theorem tyC_b {r : Bl} : GoodB (tyC r) := fun _ _ _ hb h => TyBlk.below h hb
theorem tyC_s {r : Bl} {cs : Array Value} {W W' : World} {b : Nat} {T : TypeId} (hT : (T != 3) = true) (hot : ∀ k x, k ≠ b → W.heap[k]? = some x → W'.heap[k]? = some x) (hz : W.heap.size ≤ W'.heap.size) (hb : ∃ cs0, W.heap[b]? = some (.cells cs0 T (0, 0))) (h : tyC r cs W) : tyC r cs W' := by
  obtain ⟨cs0, hb⟩ := hb
  obtain ⟨g1, c1, g2, c2, g3, c3, e, h1, h2, h3⟩ := h
  exact ⟨g1, c1, g2, c2, g3, c3, e, h1.other hot (own_ne h1 hb hT) hz, h2.other hot (own_ne h2 hb hT) hz, h3.other hot (own_ne h3 hb hT) hz⟩
open Go.RowKit
theorem sheet_b (x : Sh) (hx : ShIn x) (w : World) : Calls Tryz.prog 34 #[.agg #[.int .u8 x.x0, .int .u8 x.x1, .int .u8 x.x2, .int .u8 x.x3, .int .u8 x.xh, .int .u8 x.y0, .int .u8 x.y1, .int .u8 x.y2, .int .u8 x.y3, .bool x.xo, .int .u8 x.ca, .int .u8 x.cb, .int .u8 x.v0, .int .u8 x.v1, .int .u8 x.v2, .int .u8 x.v3, .int .u8 x.v4]] w (TyBlkP (shBl x) w) := by
  obtain ⟨h0, h1', h2', h3', hh, b0, b1, b2, b3, ca, cb, e0, e1, e2, e3, e4⟩ := hx
  exact sheet_blank x.x0 x.x1 x.x2 x.x3 x.xh x.y0 x.y1 x.y2 x.y3 x.xo x.ca x.cb x.v0 x.v1 x.v2 x.v3 x.v4 w h0 h1' h2' h3' hh b0 b1 b2 b3 ca cb e0 e1 e2 e3 e4
theorem sheet_c (x : Sh) (hx : ShIn x) (w : World) : Calls Tryz.prog 35 #[.agg #[.int .u8 x.x0, .int .u8 x.x1, .int .u8 x.x2, .int .u8 x.x3, .int .u8 x.xh, .int .u8 x.y0, .int .u8 x.y1, .int .u8 x.y2, .int .u8 x.y3, .bool x.xo, .int .u8 x.ca, .int .u8 x.cb, .int .u8 x.v0, .int .u8 x.v1, .int .u8 x.v2, .int .u8 x.v3, .int .u8 x.v4]] w (fun e w' => e = .returned (.agg #[.int .i64 (shCal x).1, .int .i64 (shCal x).2]) ∧ Below w.heap.size w w') := by
  obtain ⟨h0, h1', h2', h3', hh, b0, b1, b2, b3, ca, cb, e0, e1, e2, e3, e4⟩ := hx
  exact shCal_any x.x0 x.x1 x.x2 x.x3 x.xh x.y0 x.y1 x.y2 x.y3 x.xo x.ca x.cb x.v0 x.v1 x.v2 x.v3 x.v4 w h0 h1' h2' h3' hh b0 b1 b2 b3 ca cb e0 e1 e2 e3 e4
theorem twin_ty {B : Nat} (b : Bl) {v : Value} (w : World) (hT : TyBlk B b v w) (hck : checkErr b = 0) : Calls Tryz.prog 33 #[v] w (fun e w' => ∃ u, e = .returned u ∧ TyBlk B (twinB b) u w' ∧ Below w.heap.size w w') := by
  obtain ⟨⟨hl1, hl2, hl3⟩, -, -, gh, ⟨gp0, gp1, gp2, gp3⟩, gt0, gt1, gu0, gu1⟩ := good_nums hck
  obtain ⟨tab, panels, hh, top, bottom, sl, op⟩ := b
  obtain ⟨p0, p1, p2, p3, rfl⟩ := list_four hl1
  obtain ⟨t0, t1, rfl⟩ := list_two hl2
  obtain ⟨u0, u1, rfl⟩ := list_two hl3
  simp only [List.getD_cons_zero, List.getD_cons_succ] at gp0 gp1 gp2 gp3 gt0 gt1 gu0 gu1
  have gh : 1 ≤ hh ∧ hh ≤ 3000 := gh
  obtain ⟨g1, c1, g2, c2, g3, c3, rfl, h1, h2, h3⟩ := hT
  exact twin_any _ _ g3 B c1 c2 c3 tab p0 p1 p2 p3 hh t0 t1 u0 u1 sl op w h1.ii h2.ii h3
theorem wished_blk (x : Sh) (hx : ShIn x) (a1 a2 a3 : Option Addr) (c1 c2 c3 : Nat) (b : Bl) (lo hi : Int) (w : World) (h1 : Ii w a1 b.panels.length c1 b.panels) (h2 : Ii w a2 b.top.length c2 b.top) (h3 : Ii w a3 b.bottom.length c3 b.bottom) (hck : checkErr b = 0) (glo : 0 ≤ lo ∧ lo ≤ 100000) (ghi : 0 ≤ hi ∧ hi ≤ 100000) : Calls Tryz.prog 36 #[.agg #[.int .u8 x.x0, .int .u8 x.x1, .int .u8 x.x2, .int .u8 x.x3, .int .u8 x.xh, .int .u8 x.y0, .int .u8 x.y1, .int .u8 x.y2, .int .u8 x.y3, .bool x.xo, .int .u8 x.ca, .int .u8 x.cb, .int .u8 x.v0, .int .u8 x.v1, .int .u8 x.v2, .int .u8 x.v3, .int .u8 x.v4], .agg #[.int .i64 b.tab, .slice a1 (b.panels.length) c1, .int .i64 b.height, .slice a2 (b.top.length) c2, .slice a3 (b.bottom.length) c3, .int .i64 b.slot, .bool b.isOpen], .agg #[.int .i64 lo, .int .i64 hi]] w (fun e w' => e = .returned (.agg #[.int .i64 ((wishOf x b lo hi).length.1), .int .i64 ((wishOf x b lo hi).length.2), .int .i64 ((wishOf x b lo hi).width.1), .int .i64 ((wishOf x b lo hi).width.2), .int .i64 ((wishOf x b lo hi).height.1), .int .i64 ((wishOf x b lo hi).height.2), .int .i64 ((wishOf x b lo hi).outer.1), .int .i64 ((wishOf x b lo hi).outer.2), .int .i64 ((wishOf x b lo hi).inner.1), .int .i64 ((wishOf x b lo hi).inner.2), .bool b.isOpen]) ∧ Below w.heap.size w w') := by
  obtain ⟨⟨hl1, hl2, hl3⟩, -, -, gh, ⟨gp0, gp1, gp2, gp3⟩, gt0, gt1, gu0, gu1⟩ := good_nums hck
  obtain ⟨tab, panels, hh, top, bottom, sl, op⟩ := b
  obtain ⟨p0, p1, p2, p3, rfl⟩ := list_four hl1
  obtain ⟨t0, t1, rfl⟩ := list_two hl2
  obtain ⟨u0, u1, rfl⟩ := list_two hl3
  simp only [List.getD_cons_zero, List.getD_cons_succ] at gp0 gp1 gp2 gp3 gt0 gt1 gu0 gu1
  have gh : 1 ≤ hh ∧ hh ≤ 3000 := gh
  obtain ⟨h0, h1', h2', h3', hh', b0, b1, b2, b3, ca, cb, e0, e1, e2, e3, e4⟩ := hx
  exact wishS_any x.x0 x.x1 x.x2 x.x3 x.xh x.y0 x.y1 x.y2 x.y3 x.xo x.ca x.cb x.v0 x.v1 x.v2 x.v3 x.v4 a1 a2 a3 c1 c2 c3 tab p0 p1 p2 p3 hh t0 t1 u0 u1 sl op lo hi w h1 h2 h3 h0 h1' h2' h3' hh' b0 b1 b2 b3 ca cb e0 e1 e2 e3 e4 (by omega) (by omega) (by omega) (by omega) (by omega) (by omega) (by omega) (by omega) (by omega) glo ghi
theorem own_ty (a1 a2 a3 : Option Addr) (c1 c2 c3 : Nat) (b : Bl) (w : World) (h1 : Ii w a1 b.panels.length c1 b.panels) (h2 : Ii w a2 b.top.length c2 b.top) (h3 : Ii w a3 b.bottom.length c3 b.bottom) (hck : checkErr b = 0) : Calls Tryz.prog 13 #[.agg #[.int .i64 b.tab, .slice a1 (b.panels.length) c1, .int .i64 b.height, .slice a2 (b.top.length) c2, .slice a3 (b.bottom.length) c3, .int .i64 b.slot, .bool b.isOpen]] w (TyBlkP b w) := by
  obtain ⟨⟨hl1, hl2, hl3⟩, -, -, gh, ⟨gp0, gp1, gp2, gp3⟩, gt0, gt1, gu0, gu1⟩ := good_nums hck
  obtain ⟨tab, panels, hh, top, bottom, sl, op⟩ := b
  obtain ⟨p0, p1, p2, p3, rfl⟩ := list_four hl1
  obtain ⟨t0, t1, rfl⟩ := list_two hl2
  obtain ⟨u0, u1, rfl⟩ := list_two hl3
  simp only [List.getD_cons_zero, List.getD_cons_succ] at gp0 gp1 gp2 gp3 gt0 gt1 gu0 gu1
  have gh : 1 ≤ hh ∧ hh ≤ 3000 := gh
  refine (own_own a1 a2 a3 c1 c2 c3 tab p0 p1 p2 p3 hh t0 t1 u0 u1 sl op w h1 h2 h3).mono fun e w' h => ?_
  obtain ⟨v, e1, h, h4⟩ := h
  obtain ⟨g1, c1, g2, c2, g3, c3, e2, k1, k2, k3, -⟩ := h
  exact ⟨v, e1, ⟨g1, c1, g2, c2, g3, c3, e2, k1, k2, k3⟩, h4⟩
theorem pp_nth {W : World} {aa : Option Addr} {a o n c : Nat} {xs : List Sp} (h : Pp W aa n c xs) (ha : aa = some ⟨a, o, none⟩) {i : Nat} (hi : i < xs.length) :
    W.cell? ⟨a, o + i * 2, none⟩ = some (.int .i64 (nthP xs i).1) ∧ W.cell? ⟨a, o + i * 2 + 1, none⟩ = some (.int .i64 (nthP xs i).2) := pp_get h ha hi
def IsPpP (L : List Sp) (er : Int) (w : World) (e : Ending) (w' : World) : Prop := ∃ x, e = .returned (.tuple #[x, .int .i64 er]) ∧ IsPp L x w' ∧ Below w.heap.size w w'
theorem cal_ok {u : Value} {b : Bl} (v : Wi) (w : World) (hB : Blk w u b) : Calls Tryz.prog 23 #[u, .agg #[.int .i64 v.length.1, .int .i64 v.length.2, .int .i64 v.width.1, .int .i64 v.width.2, .int .i64 v.height.1, .int .i64 v.height.2, .int .i64 v.outer.1, .int .i64 v.outer.2, .int .i64 v.inner.1, .int .i64 v.inner.2, .bool v.isOpen]] w (fun e w' => e = .returned (.tuple #[.agg #[.int .i64 (calOf b v).1, .int .i64 (calOf b v).2], .int .i64 (calErr b v)]) ∧ Below w.heap.size w w') :=
  calipers_any u b v.length.1 v.length.2 v.width.1 v.width.2 v.height.1 v.height.2 v.outer.1 v.outer.2 v.inner.1 v.inner.2 v.isOpen w hB
open Go.RowKit
def fitsR (n lo hi : Int) : Bool := inB n (1000 * lo) (1000 * hi)
def flapR (b : Bl) (top outer : Bool) : Int := (if top = true then b.top else b.bottom).getD (if outer = true then 0 else 1) 0
def gapR (b : Bl) (top outer : Bool) (c : Int) : Int := (panR b (if outer = true then 1 else 0) c - 1000 * flapR b top outer) - 1000 * flapR b top outer
open Go.RowKit
def rangeL (lo hi : Int) : List Int := (List.range (hi + 1 - lo).toNat).map fun (k : Nat) => lo + (k : Int)
def aroundL (n off least : Int) : List Int := rangeL (max least (n - off)) (min 3000 (n + off))
def NwA (B : Nat) (xs : List Int) (v : Value) (W : World) : Prop := ∃ a c, v = .slice a xs.length c ∧ Ii W a xs.length c xs ∧ ∀ g o, a = some ⟨g, o, none⟩ → B ≤ g ∧ g < W.heap.size
theorem NwA.below {B : Nat} {xs : List Int} {v : Value} {W W' : World} (h : NwA B xs v W) (hb : Below W.heap.size W W') : NwA B xs v W' := by
  obtain ⟨a, c, e, h, l⟩ := h
  exact ⟨a, c, e, h.below hb (Nat.le_refl _), fun g o e => ⟨(l g o e).1, Nat.lt_of_lt_of_le (l g o e).2 hb.size⟩⟩
theorem open_top {b : Bl} (h : checkErr b = 0) (ho : b.isOpen = true) : b.top.getD 0 0 = 0 ∧ b.top.getD 1 0 = 0 := by
  obtain ⟨⟨-, h2, -⟩, -⟩ := good_nums h
  unfold checkErr at h
  split at h
  · cases h
  · split at h
    · cases h
    · split at h
      · cases h
      · rename_i hn
        obtain ⟨t, p, hh, top, u, s, o⟩ := b
        simp only at ho h2 hn
        match top, h2 with
        | [x, y], _ =>
          simp [ho, within] at hn
          simp; omega
open Go.RowKit
def mic (b : Bl) (c : Int) (i : Nat) : Int := (microsOf b c).getD i 0
theorem lim_in {lo hi wd least most : Int} (hw : 0 ≤ wd) (h1 : 1000 * least ≤ lo) (h2 : hi ≤ 1000 * most) (h3 : lo ≤ hi) : 1000 * (limS (aroundS lo hi wd) least most).1 ≤ lo ∧ hi ≤ 1000 * (limS (aroundS lo hi wd) least most).2 := by
  unfold limS aroundS dn upw; simp only; omega
theorem twinSh (x : Sh) : twinB (shBl x) = ⟨30, [60 + x.x0, 60 + x.x1, 60 + x.x0, 60 + x.x1], 40 + x.xh, if x.xo = true then [0, 0] else [x.y2, x.y3], [x.y2, x.y3], 9, x.xo⟩ := rfl
theorem top_le (x : Sh) : (twinB (shBl x)).top.length ≤ 1000 := by
  rw [twinSh]; simp only; split <;> simp
theorem fold_k {x : Sh} (gx : ShIn x) {k : Nat} (hk : k < 10) : (holdsOf (twinB (shBl x)) (wishOf x (twinB (shBl x)) (shCal x).1 (shCal x).2) k).1 ≤ (shCal x).1 ∧ (shCal x).2 ≤ (holdsOf (twinB (shBl x)) (wishOf x (twinB (shBl x)) (shCal x).1 (shCal x).2) k).2 := by
  obtain ⟨c1, c2, c3⟩ := shCal_in gx
  have c4 : (shCal x).2 ≤ 7110 := by obtain ⟨-, -, -, -, -, -, -, -, -, a, b, -⟩ := gx; unfold shCal; simp only; omega
  obtain ⟨g0, g1, g2, g3, gh, a0, a1, a2, a3, -⟩ := gx
  have hw : ∀ n : Int, 0 ≤ n % 4 := fun n => by omega
  have hw6 : ∀ n : Int, 0 ≤ n % 6 := fun n => by omega
  rw [twinSh]
  generalize (shCal x).1 = lo at *
  generalize (shCal x).2 = hi at *
  have hu : ∀ n : Int, upI n 1 = n := fun n => by unfold upI; omega
  have hd : ∀ n : Int, downI n 1 = n := fun n => by unfold downI; omega
  have r0 := lim_in (lo := 1000 * (60 + x.x0) - hi) (hi := 1000 * (60 + x.x0) - lo) (least := 0) (most := 3000) (hw x.v0) (by omega) (by omega) (by omega)
  have r1 := lim_in (lo := 1000 * (60 + x.x1) - hi) (hi := 1000 * (60 + x.x1) - lo) (least := 0) (most := 3000) (hw x.v1) (by omega) (by omega) (by omega)
  have r3 := lim_in (lo := 1000 * (60 + x.x1) - hi - 2000 * x.y2) (hi := 1000 * (60 + x.x1) - lo - 2000 * x.y2) (least := -3000) (most := 3000) (hw6 x.v3) (by omega) (by omega) (by omega)
  have r4 := lim_in (lo := 1000 * (60 + x.x0) - hi - 2000 * x.y3) (hi := 1000 * (60 + x.x0) - lo - 2000 * x.y3) (least := -3000) (most := 3000) (hw6 x.v4) (by omega) (by omega) (by omega)
  cases ho : x.xo with
  | true =>
    have r2 := lim_in (lo := 1000 * (40 + x.xh) - 2 * hi + hi) (hi := 1000 * (40 + x.xh) - 2 * lo + lo) (least := 0) (most := 3000) (hw x.v2) (by omega) (by omega) (by omega)
    match k, hk with
    | 0, _ => simp [holdsOf, amongOf, both, every, hu, hd, meas, measOf, targetOf, wishOf, microsOf]; omega
    | 1, _ => simp [holdsOf, amongOf, both, every, hu, hd, meas, measOf, targetOf, wishOf, microsOf]; omega
    | 2, _ => simp [holdsOf, amongOf, both, every, hu, hd, meas, measOf, targetOf, wishOf, microsOf]; omega
    | 3, _ => simp [holdsOf, amongOf, both, every, hu, hd, meas, measOf, targetOf, wishOf, microsOf]; omega
    | 4, _ => simp [holdsOf, amongOf, both, every, hu, hd, meas, measOf, targetOf, wishOf, microsOf, foldsOf]; omega
    | 5, _ => simp [holdsOf, every, wishOf]; omega
    | 6, _ => simp [holdsOf, every, wishOf]; omega
    | 7, _ => simp [holdsOf, amongOf, both, every, hu, hd, meas, measOf, targetOf, wishOf, microsOf]; omega
    | 8, _ => simp [holdsOf, amongOf, both, every, hu, hd, meas, measOf, targetOf, wishOf, microsOf]; omega
    | 9, _ => simp [holdsOf, both, every]; omega
  | false =>
    have r2 := lim_in (lo := 1000 * (40 + x.xh) - 2 * hi) (hi := 1000 * (40 + x.xh) - 2 * lo) (least := 0) (most := 3000) (hw x.v2) (by omega) (by omega) (by omega)
    match k, hk with
    | 0, _ => simp [holdsOf, amongOf, both, every, hu, hd, meas, measOf, targetOf, wishOf, microsOf]; omega
    | 1, _ => simp [holdsOf, amongOf, both, every, hu, hd, meas, measOf, targetOf, wishOf, microsOf]; omega
    | 2, _ => simp [holdsOf, amongOf, both, every, hu, hd, meas, measOf, targetOf, wishOf, microsOf]; omega
    | 3, _ => simp [holdsOf, amongOf, both, every, hu, hd, meas, measOf, targetOf, wishOf, microsOf]; omega
    | 4, _ => simp [holdsOf, amongOf, both, every, upI, downI, meas, measOf, targetOf, wishOf, microsOf, foldsOf]; omega
    | 5, _ => simp [holdsOf, amongOf, both, every, hu, hd, meas, measOf, targetOf, wishOf, microsOf]; omega
    | 6, _ => simp [holdsOf, amongOf, both, every, hu, hd, meas, measOf, targetOf, wishOf, microsOf]; omega
    | 7, _ => simp [holdsOf, amongOf, both, every, hu, hd, meas, measOf, targetOf, wishOf, microsOf]; omega
    | 8, _ => simp [holdsOf, amongOf, both, every, hu, hd, meas, measOf, targetOf, wishOf, microsOf]; omega
    | 9, _ => simp [holdsOf, both, every]; omega
theorem fold_nil {x : Sh} (gx : ShIn x) : closeL (twinB (shBl x)) (wishOf x (twinB (shBl x)) (shCal x).1 (shCal x).2) ((shCal x).1, (shCal x).2) = [] :=
  (close_nil (shCal_in gx).2.1).2 fun _ hk => fold_k gx hk
theorem innerErr_ok {b : Bl} (h : checkErr b = 0) {lo hi off : Int} (h3 : 1 ≤ lo) (h4 : lo ≤ hi) (h5 : hi ≤ 10000) (h6 : 0 ≤ off) (h7 : off ≤ 5) : innerErr b (lo, hi) off = 0 := by
  have : isSpan (lo, hi) 1 10000 = true := by
    unfold isSpan within
    simp only [List.any_cons, List.any_nil, Bool.or_false, Bool.and_eq_true, Bool.not_eq_true', Bool.or_eq_false_iff, decide_eq_false_iff_not, decide_eq_true_eq]
    omega
  have h8 : within 0 5 [off] = true := by unfold within; simp; omega
  unfold innerErr checkedErr checkedErr
  simp [h, this, h8]
open Go.RowKit
theorem Ii.lim {W : World} {a : Option Addr} {n c : Nat} {xs : List Int} (h : Ii W a n c xs) : ∀ g o, a = some ⟨g, o, none⟩ → xs ≠ [] → g < W.heap.size := by
  intro g o e hne
  obtain ⟨b, off, e', hl, -⟩ := h.at (List.length_pos_iff.2 hne)
  rw [e] at e'
  cases e'
  exact hl
open Go.RowKit
theorem inner_ok {u : Value} {b : Bl} (lo hi off : Int) (w : World) (hB : Blk w u b) (hck : checkErr b = 0) (h1 : 1 ≤ lo) (h2 : lo ≤ hi) (h3 : hi ≤ 10000) (h4 : 0 ≤ off) (h5 : off ≤ 5) : Calls Tryz.prog 14 #[u, .agg #[.int .i64 lo, .int .i64 hi], .int .i64 off] w (IsPpP (innerL b (lo, hi) off) 0 w) := by
  have hE := innerErr_ok hck h1 h2 h3 h4 h5
  refine (inner_any u b lo hi off w hB (by omega) (by omega)).mono fun e w' h => ?_
  obtain ⟨a, n, c, e1, h1, h2⟩ := h
  rw [hE] at e1
  rw [if_pos hE] at h1
  exact ⟨_, e1, isPp_of h1, h2⟩
theorem micros_blk (a1 a2 a3 : Option Addr) (c1 c2 c3 : Nat) (b : Bl) (c : Int) (w : World) (h1 : Ii w a1 b.panels.length c1 b.panels) (h2 : Ii w a2 b.top.length c2 b.top) (h3 : Ii w a3 b.bottom.length c3 b.bottom) (hck : checkErr b = 0) (hc : 0 ≤ c ∧ c ≤ 100000) : Calls Tryz.prog 37 #[.agg #[.int .i64 b.tab, .slice a1 (b.panels.length) c1, .int .i64 b.height, .slice a2 (b.top.length) c2, .slice a3 (b.bottom.length) c3, .int .i64 b.slot, .bool b.isOpen], .int .i64 c] w (fun e w' => e = .returned (.agg #[.int .i64 (mic b c 0), .int .i64 (mic b c 1), .int .i64 (mic b c 2), .int .i64 (mic b c 3), .int .i64 (mic b c 4), .int .i64 (mic b c 5), .int .i64 (mic b c 6), .int .i64 (mic b c 7), .int .i64 (mic b c 8)]) ∧ Below w.heap.size w w') := by
  obtain ⟨⟨hl1, hl2, hl3⟩, -, -, gh, ⟨gp0, gp1, gp2, gp3⟩, gt0, gt1, gu0, gu1⟩ := good_nums hck
  obtain ⟨tab, panels, hh, top, bottom, sl, op⟩ := b
  obtain ⟨p0, p1, p2, p3, rfl⟩ := list_four hl1
  obtain ⟨t0, t1, rfl⟩ := list_two hl2
  obtain ⟨u0, u1, rfl⟩ := list_two hl3
  simp only [List.getD_cons_zero, List.getD_cons_succ] at gp0 gp1 gp2 gp3 gt0 gt1 gu0 gu1
  have gh : 1 ≤ hh ∧ hh ≤ 3000 := gh
  exact micros_any a1 a2 a3 c1 c2 c3 tab p0 p1 p2 p3 hh t0 t1 u0 u1 sl op c w h1 h2 h3 (by omega) (by omega) (by omega) (by omega) (by omega) (by omega) (by omega) (by omega) (by omega) hc
theorem mic_cell {b : Bl} {c : Int} {j : Nat} (h : j < 9) : (#[.int .i64 (mic b c 0), .int .i64 (mic b c 1), .int .i64 (mic b c 2), .int .i64 (mic b c 3), .int .i64 (mic b c 4), .int .i64 (mic b c 5), .int .i64 (mic b c 6), .int .i64 (mic b c 7), .int .i64 (mic b c 8)] : Array Value)[j]? = some (.int .i64 (mic b c j)) := by
  match j, h with
  | 0, _ => rfl
  | 1, _ => rfl
  | 2, _ => rfl
  | 3, _ => rfl
  | 4, _ => rfl
  | 5, _ => rfl
  | 6, _ => rfl
  | 7, _ => rfl
  | 8, _ => rfl
open Go.RowKit
def holdsR (b : Bl) (w : Wi) (k : Nat) (c : Int) : Bool :=
  match k with
  | 0 => fitsR (panR b 0 c) w.length.1 w.length.2
  | 1 => fitsR (panR b 1 c) w.width.1 w.width.2
  | 2 => fitsR (panR b 2 c) w.length.1 w.length.2
  | 3 => fitsR (panR b 3 c) w.width.1 w.width.2
  | 4 => fitsR (heightR b c) w.height.1 w.height.2
  | 5 => if (b.isOpen || w.isOpen) = true then (b.isOpen && w.isOpen) else fitsR (gapR b true true c) w.outer.1 w.outer.2
  | 6 => (b.isOpen || w.isOpen) || fitsR (gapR b true false c) w.inner.1 w.inner.2
  | 7 => fitsR (gapR b false true c) w.outer.1 w.outer.2
  | 8 => fitsR (gapR b false false c) w.inner.1 w.inner.2
  | _ => decide (c ≤ 1000 * b.slot)
open Go.RowKit
def gapS (w : Wi) (k : Nat) (p flap off c : Int) : Bool := (aroundL flap off 0).any fun f => fitsR ((1000 * p - c - 1000 * f) - 1000 * f) (if k = 0 then w.outer.1 else w.inner.1) (if k = 0 then w.outer.2 else w.inner.2)
def panS (w : Wi) (i : Nat) (p c : Int) : Bool := fitsR (1000 * p - c) (if i % 2 = 0 then w.length.1 else w.width.1) (if i % 2 = 0 then w.length.2 else w.width.2)
def fineR (b : Bl) (w : Wi) (off c : Int) (i : Nat) (p : Int) : Bool :=
  if i < 2 then (panS w i p c && gapS w (1 - i) p (b.bottom.getD (1 - i) 0) off c) && (b.isOpen || gapS w (1 - i) p (b.top.getD (1 - i) 0) off c) else panS w i p c
def highS (op : Bool) (w : Wi) (h c : Int) : Bool := fitsR (if op = true then 1000 * h - c else 1000 * h - c - c) w.height.1 w.height.2
def mayR (b : Bl) (w : Wi) (off c : Int) : Bool :=
  if (!(holdsR b w 5 c) && (b.isOpen || w.isOpen)) = true then false else
  if (!(decide (c ≤ 1000 * min 20 (b.slot + off)))) = true then false else
  (aroundL b.height off 1).any (fun h => highS b.isOpen w h c) && (List.range 4).all fun i => (aroundL (b.panels.getD i 0) off 1).any (fineR b w off c i)
theorem around_some (n off least : Int) (p : Int → Bool) : someB least n off p = (aroundL n off least).any p := rfl
theorem isIn_fits (p c : Int) (s : Sp) : isInOf p 1 c s = fitsR (1000 * p - c) s.1 s.2 := by
  unfold isInOf fitsR inB; rw [Int.one_mul]
theorem isIn_gap (p x c : Int) (s : Sp) : isInOf (p - 2 * x) 1 c s = fitsR ((1000 * p - c - 1000 * x) - 1000 * x) s.1 s.2 := by
  unfold isInOf fitsR inB
  rw [show 1000 * (p - 2 * x) - 1 * c = (1000 * p - c - 1000 * x) - 1000 * x from by omega]
theorem isIn_high (op : Bool) (w : Wi) (h c : Int) : isInOf h (foldsOf op) c w.height = highS op w h c := by
  unfold isInOf highS fitsR inB foldsOf
  cases op
  · simp only [Bool.false_eq_true, if_false]
    rw [show 1000 * h - 2 * c = 1000 * h - c - c from by omega]
  · simp only [if_true]
    rw [Int.one_mul]
theorem gapS_some (w : Wi) (k : Nat) (p flap off c : Int) (s : Sp) (h1 : (if k = 0 then w.outer.1 else w.inner.1) = s.1) (h2 : (if k = 0 then w.outer.2 else w.inner.2) = s.2) : (someB 0 flap off fun x => isInOf (p - 2 * x) 1 c s) = gapS w k p flap off c := by
  rw [around_some]; unfold gapS
  congr 1
  funext x
  rw [isIn_gap, h1, h2]
theorem fine_ok (b : Bl) (w : Wi) (off c : Int) {i : Nat} (hi : i < 4) (p : Int) :
    okP w c off p (if b.isOpen then [(b.bottom.getD 0 0, b.bottom.getD 1 0)] else [(b.bottom.getD 0 0, b.bottom.getD 1 0), (b.top.getD 0 0, b.top.getD 1 0)]) i = fineR b w off c i p := by
  have g0 : ∀ f, (someB 0 f off fun x => isInOf (p - 2 * x) 1 c w.inner) = gapS w 1 p f off c := fun f => gapS_some w 1 p f off c w.inner rfl rfl
  have g1 : ∀ f, (someB 0 f off fun x => isInOf (p - 2 * x) 1 c w.outer) = gapS w 0 p f off c := fun f => gapS_some w 0 p f off c w.outer rfl rfl
  unfold okP fineR badF
  rw [isIn_fits]
  match i, hi with
  | 0, _ => cases b.isOpen <;> simp [g0, panS, targetOf, Bool.and_assoc]
  | 1, _ => cases b.isOpen <;> simp [g1, panS, targetOf, Bool.and_assoc]
  | 2, _ => cases b.isOpen <;> simp [panS, targetOf]
  | 3, _ => cases b.isOpen <;> simp [panS, targetOf]
theorem mayR_eq (b : Bl) (w : Wi) (off c : Int) : mayR b w off c = closesOf b w off c := by
  have e5 : holdsR b w 5 c = (if (b.isOpen || w.isOpen) = true then (b.isOpen && w.isOpen) else fitsR (gapR b true true c) w.outer.1 w.outer.2) := rfl
  have hp : ∀ i, i < 4 → (someB 1 (b.panels.getD i 0) off fun p => okP w c off p (if b.isOpen then [(b.bottom.getD 0 0, b.bottom.getD 1 0)] else [(b.bottom.getD 0 0, b.bottom.getD 1 0), (b.top.getD 0 0, b.top.getD 1 0)]) i) = (aroundL (b.panels.getD i 0) off 1).any (fineR b w off c i) := fun i hi => by
    rw [around_some]
    congr 1
    funext p
    exact fine_ok b w off c hi p
  have hh : (someB 1 b.height off fun n => isInOf n (foldsOf b.isOpen) c w.height) = (aroundL b.height off 1).any (fun h => highS b.isOpen w h c) := by
    rw [around_some]
    congr 1
    funext h
    exact isIn_high _ w h c
  unfold mayR closesOf
  rw [e5]
  simp only [hp 0 (by decide), hp 1 (by decide), hp 2 (by decide), hp 3 (by decide), hh]
  have hr : ∀ f : Nat → Bool, (List.range 4).all f = (f 0 && (f 1 && (f 2 && f 3))) := fun f => by simp [List.range, List.range.loop]
  rw [hr]
  generalize (aroundL b.height off 1).any (fun h => highS b.isOpen w h c) = H
  generalize (aroundL (b.panels.getD 0 0) off 1).any (fineR b w off c 0) = P0
  generalize (aroundL (b.panels.getD 1 0) off 1).any (fineR b w off c 1) = P1
  generalize (aroundL (b.panels.getD 2 0) off 1).any (fineR b w off c 2) = P2
  generalize (aroundL (b.panels.getD 3 0) off 1).any (fineR b w off c 3) = P3
  generalize decide (c ≤ 1000 * min 20 (b.slot + off)) = S
  generalize fitsR (gapR b true true c) w.outer.1 w.outer.2 = G
  cases b.isOpen <;> cases w.isOpen <;> cases S <;> cases H <;> simp
theorem mayFrom_at {f : Int → Bool} : ∀ (n : Nat) (lo c : Int), lo ≤ c → c < lo + (n : Int) → (∀ d, lo ≤ d → d < c → f d = false) → f c = true → mayFrom f n lo = (c, 0)
  | 0, lo, c, h1, h2, _, _ => by omega
  | n + 1, lo, c, h1, h2, h3, h4 => by
    unfold mayFrom
    by_cases h : lo = c
    · rw [h, if_pos h4]
    · rw [if_neg (by rw [h3 lo (Int.le_refl _) (by omega)]; exact Bool.false_ne_true)]
      exact mayFrom_at n (lo + 1) c (by omega) (by omega) (fun d h5 h6 => h3 d (by omega) h6) h4
open Go.RowKit
theorem wished_parts {b : Bl} {w : Wi} {l : List Sp} (h : wishedErr b w l = 0) : checkErr b = 0 ∧ wishErr w = 0 := by
  unfold wishedErr at h
  split at h
  · rename_i h1
    split at h
    · rename_i h2; exact ⟨h1, h2⟩
    · rename_i h2; exact absurd h h2
  · rename_i h1; exact absurd h h1
theorem wished_span {b : Bl} {w : Wi} {s : Sp} (h : wishedErr b w [s] = 0) : isSpan s 1 10000 = true := by
  obtain ⟨h1, h2⟩ := wished_parts h
  unfold wishedErr checkedErr at h
  rw [if_pos h1, if_pos h2] at h
  by_cases e : isSpan s 1 10000 = true
  · exact e
  · simp [e] at h
theorem holdsR_iff {b : Bl} {w : Wi} {k : Nat} {c : Int} (hk : k < 10) (h1 : 1 ≤ c) (h2 : c ≤ 10000) : holdsR b w k c = true ↔ (holdsOf b w k).1 ≤ c ∧ c ≤ (holdsOf b w k).2 := by
  have hu : ∀ n : Int, upI n 1 = n := fun n => by unfold upI; omega
  have hd : ∀ n : Int, downI n 1 = n := fun n => by unfold downI; omega
  match k, hk with
  | 0, _ => simp [holdsR, fitsR, inB, panR, holdsOf, amongOf, both, every, hu, hd, meas, measOf, targetOf]; omega
  | 1, _ => simp [holdsR, fitsR, inB, panR, holdsOf, amongOf, both, every, hu, hd, meas, measOf, targetOf]; omega
  | 2, _ => simp [holdsR, fitsR, inB, panR, holdsOf, amongOf, both, every, hu, hd, meas, measOf, targetOf]; omega
  | 3, _ => simp [holdsR, fitsR, inB, panR, holdsOf, amongOf, both, every, hu, hd, meas, measOf, targetOf]; omega
  | 4, _ =>
    cases ho : b.isOpen with
    | true => simp [holdsR, fitsR, inB, heightR, holdsOf, amongOf, both, every, hu, hd, meas, measOf, targetOf, ho, foldsOf]; omega
    | false => simp [holdsR, fitsR, inB, heightR, holdsOf, amongOf, both, every, upI, downI, meas, measOf, targetOf, ho, foldsOf]; omega
  | 5, _ =>
    cases ho : b.isOpen <;> cases hwo : w.isOpen <;> simp [holdsR, fitsR, inB, gapR, flapR, panR, holdsOf, amongOf, both, every, hu, hd, meas, measOf, targetOf, ho, hwo] <;> omega
  | 6, _ =>
    cases ho : b.isOpen <;> cases hwo : w.isOpen <;> simp [holdsR, fitsR, inB, gapR, flapR, panR, holdsOf, amongOf, both, every, hu, hd, meas, measOf, targetOf, ho, hwo] <;> omega
  | 7, _ => simp [holdsR, fitsR, inB, gapR, flapR, panR, holdsOf, amongOf, both, every, hu, hd, meas, measOf, targetOf]; omega
  | 8, _ => simp [holdsR, fitsR, inB, gapR, flapR, panR, holdsOf, amongOf, both, every, hu, hd, meas, measOf, targetOf]; omega
  | 9, _ => simp [holdsR, holdsOf, both, every]; omega
open Go.RowKit
theorem inB_iff {n lo hi : Int} : inB n lo hi = true ↔ lo ≤ n ∧ n ≤ hi := by unfold inB; simp
open Go.RowKit
theorem may_blk {u : Value} {b : Bl} (v : Wi) (lo hi off : Int) (w : World) (hB : Blk w u b) : Calls Tryz.prog 31 #[u, .agg #[.int .i64 v.length.1, .int .i64 v.length.2, .int .i64 v.width.1, .int .i64 v.width.2, .int .i64 v.height.1, .int .i64 v.height.2, .int .i64 v.outer.1, .int .i64 v.outer.2, .int .i64 v.inner.1, .int .i64 v.inner.2, .bool v.isOpen], .agg #[.int .i64 lo, .int .i64 hi], .int .i64 off] w (fun e w' => e = .returned (.tuple #[.int .i64 (mayOf b v lo hi off).1, .int .i64 (mayOf b v lo hi off).2]) ∧ Below w.heap.size w w') := by
  obtain ⟨a1, n1, c1, a2, n2, c2, a3, n3, c3, rfl, h1, h2, h3⟩ := hB
  obtain rfl := h1.1; obtain rfl := h2.1; obtain rfl := h3.1
  obtain ⟨⟨l1, x1⟩, ⟨l2, x2⟩, ⟨l3, x3⟩, ⟨l4, x4⟩, ⟨l5, x5⟩, wo⟩ := v
  cases hz : (wishedErr b ⟨(l1, x1), (l2, x2), (l3, x3), (l4, x4), (l5, x5), wo⟩ [(lo, hi)] != 0) with
  | true => exact may_bad a1 a2 a3 c1 c2 c3 b l1 x1 l2 x2 l3 x3 l4 x4 l5 x5 lo hi off wo w h1 h2 h3 fun h => by rw [hz] at h; cases h
  | false =>
    cases hof : (!(within 0 5 [off])) with
    | true => exact may_bad a1 a2 a3 c1 c2 c3 b l1 x1 l2 x2 l3 x3 l4 x4 l5 x5 lo hi off wo w h1 h2 h3 fun _ => hof
    | false =>
      have hE := bne_eq_false_iff_eq.1 hz
      obtain ⟨hck, hxw⟩ := wished_parts hE
      have hw := wish_in hxw
      obtain ⟨s1, s2, s3⟩ := isSpan_iff.1 (wished_span hE)
      have hio : inB off 0 5 = true := by rw [within_one] at hof; simpa using hof
      obtain ⟨o1, o2⟩ := inB_iff.1 hio
      obtain ⟨⟨hl1, hl2, hl3⟩, -, ⟨gs1, gs2⟩, ⟨gh1, gh2⟩, ⟨gp0, gp1, gp2, gp3⟩, gt0, gt1, gu0, gu1⟩ := good_nums hck
      obtain ⟨tab, panels, hh, top, bottom, sl, op⟩ := b
      obtain ⟨p0, p1, p2, p3, rfl⟩ := list_four hl1
      obtain ⟨t0, t1, rfl⟩ := list_two hl2
      obtain ⟨u0, u1, rfl⟩ := list_two hl3
      simp only [List.getD_cons_zero, List.getD_cons_succ] at gp0 gp1 gp2 gp3 gt0 gt1 gu0 gu1 gs1 gs2 gh1 gh2
      obtain ⟨q1, r1, rfl, -⟩ := h1.at (by simp)
      obtain ⟨q2, r2, rfl, -⟩ := h2.at (by simp)
      obtain ⟨q3, r3, rfl, -⟩ := h3.at (by simp)
      have hpp : ∀ x ∈ [p0, p1, p2, p3], 1 ≤ x ∧ x ≤ 3000 := by simp only [List.mem_cons, List.not_mem_nil, or_false]; intro x hx; rcases hx with rfl | rfl | rfl | rfl <;> assumption
      cases op <;> cases wo
      · exact may_false l1 x1 l2 x2 l3 x3 l4 x4 l5 x5 lo hi off false p0 p1 p2 p3 u0 u1 t0 t1 tab hh sl q1 r1 c1 q3 r3 c3 q2 r2 c2 w hw h1 h3 h2 hpp gu0.1 gu0.2 gu1.1 gu1.2 gt0.1 gt0.2 gt1.1 gt1.2 s1 s3 o1 o2 gh1 gh2 gs1 gs2 hz hof rfl
      · exact may_ne l1 x1 l2 x2 l3 x3 l4 x4 l5 x5 lo hi off true false p0 p1 p2 p3 u0 u1 t0 t1 tab hh sl q1 r1 c1 q3 r3 c3 q2 r2 c2 w hw h1 h3 h2 hpp gu0.1 gu0.2 gu1.1 gu1.2 gt0.1 gt0.2 gt1.1 gt1.2 s1 s3 o1 o2 gh1 gh2 gs1 gs2 hz hof rfl
      · exact may_ne l1 x1 l2 x2 l3 x3 l4 x4 l5 x5 lo hi off false true p0 p1 p2 p3 u0 u1 t0 t1 tab hh sl q1 r1 c1 q3 r3 c3 q2 r2 c2 w hw h1 h3 h2 hpp gu0.1 gu0.2 gu1.1 gu1.2 gt0.1 gt0.2 gt1.1 gt1.2 s1 s3 o1 o2 gh1 gh2 gs1 gs2 hz hof rfl
      · exact may_true l1 x1 l2 x2 l3 x3 l4 x4 l5 x5 lo hi off true p0 p1 p2 p3 u0 u1 t0 t1 tab hh sl q1 r1 c1 q3 r3 c3 q2 r2 c2 w hw h1 h3 h2 hpp gu0.1 gu0.2 gu1.1 gu1.2 gt0.1 gt0.2 gt1.1 gt1.2 s1 s3 o1 o2 gh1 gh2 gs1 gs2 hz hof rfl
theorem mayOf_e3 {b : Bl} {v : Wi} {lo hi off : Int} (hE : wishedErr b v [(lo, hi)] = 0) (ho : inB off 0 5 = true) : mayOf b v lo hi off = mayFrom (closesOf b v off) (hi + 1 - lo).toNat lo := by
  unfold mayOf; rw [hE, if_neg (by decide), if_neg (by rw [within_one, ho]; decide)]
open Go.RowKit
theorem storeIA_tail {w W : World} {xs : List Int} (ys : List Int) {g c : Nat} {i : Nat} {x : Int} (hi : i < xs.length) (hys : xs.set i x = ys) (hB : Below w.heap.size w W) (hown : OwnI w.heap.size xs g c W) :
    ∃ W', (∀ {a : Act} {dst : Option Nat} {tt : TypeId} {X Y : Operand} {pos : String} {af : Array Edge} {gd : Option (Nat × Bool)}, a.eval X = .pointer (some ⟨g, i, none⟩) → a.eval Y = .int .i64 x → (execOp a.eval { dst := dst, op := .store 3 X Y, type := tt, pos := pos, after := af, guard := gd }).run Tryz.prog W = .ok .skip W') ∧
      OwnI w.heap.size ys g c W' ∧ (∀ k y, k ≠ g → W.heap[k]? = some y → W'.heap[k]? = some y) ∧ W.heap.size ≤ W'.heap.size ∧ Below w.heap.size w W' ∧ (∀ a : World, Below a.heap.size a W → a.heap.size ≤ g → Below a.heap.size a W') := by
  subst hys
  obtain ⟨hg, hlt, hl, hr⟩ := hown
  rcases hr with ⟨h, -⟩ | ⟨g', cap, cur, e, h1, h2, h3, h4, h5, h6⟩
  · cases h
  · cases e
    simp only [Nat.mul_one] at h5 h6
    have hsz : i + 1 ≤ cur.size := by omega
    refine ⟨W.setRow g (cur.toList.take i ++ [Value.int .i64 x] ++ cur.toList.drop (i + 1)).toArray, fun hX hY => ?_, ⟨hg, ?_, ?_, .inr ⟨g, _, _, ?_, h1, setRow_heap W g cur _ _ (0, 0) h2, ?_, h4, ?_, ?_⟩⟩, fun k y hk hy => by rw [setRow_other W g k _ hk]; exact hy, by rw [setRow_size]; exact Nat.le_refl _, below_setRow hB hg _, fun a ha hga => below_setRow ha hga _⟩
    · exact run_seg (v := .int .i64 x) rfl hX hY h2 (by kernel_rfl) (by simpa [Value.cells] using hsz) rfl (by simp [Value.cells])
    · rw [setRow_size]; exact hlt
    · simp
    · simp
    · simpa using h3
    · simp; omega
    · simp only [Nat.mul_one, List.length_set]
      rw [List.toList_toArray]
      exact take_set_cells h6 i hi x (by show xs.length ≤ cur.size; rw [h5]; exact h3)
open Go.RowKit
structure LeK (B : Nat) (T : TypeId → Bool) (G : TypeId → Array Value → World → Prop) (a b : World) : Prop where
  os : b.os = a.os
  tape : b.tape = a.tape
  output : b.output = a.output
  size : a.heap.size ≤ b.heap.size
  block : ∀ k x, a.heap[k]? = some x → (k < B ∨ ∀ cs t, T t = true → x ≠ .cells cs t (0, 0)) → b.heap[k]? = some x
  kind : ∀ k cs t, B ≤ k → T t = true → a.heap[k]? = some (.cells cs t (0, 0)) → ∃ cs', b.heap[k]? = some (.cells cs' t (0, 0)) ∧ cs'.size = cs.size ∧ (G t cs a → G t cs' b)
section
variable {B : Nat} {T : TypeId → Bool} {G : TypeId → Array Value → World → Prop}
theorem LeK.refl (a : World) : LeK B T G a a := ⟨rfl, rfl, rfl, Nat.le_refl _, fun _ _ h _ => h, fun _ cs _ _ _ h => ⟨cs, h, rfl, fun g => g⟩⟩
theorem LeK.trans (a b c : World) (h : LeK B T G a b) (k : LeK B T G b c) : LeK B T G a c :=
  ⟨k.os.trans h.os, k.tape.trans h.tape, k.output.trans h.output, Nat.le_trans h.size k.size, fun i x hx hn => k.block i x (h.block i x hx hn) hn, fun i cs t hi ht hx => by
    obtain ⟨cs1, h1, h2, h3⟩ := h.kind i cs t hi ht hx
    obtain ⟨cs2, h4, h5, h6⟩ := k.kind i cs1 t hi ht h1
    exact ⟨cs2, h4, h5.trans h2, fun g => h6 (h3 g)⟩⟩
theorem LeK.of_below (hG : ∀ t, GoodB (G t)) (a b : World) (h : Below a.heap.size a b) : LeK B T G a b :=
  ⟨h.os, h.tape, h.output, h.size, fun k x hx _ => bwb hx h, fun k cs t _ _ hx => ⟨cs, bwb hx h, rfl, fun g => hG t cs a b h g⟩⟩
theorem LeK.drew (hG : ∀ t, GoodB (G t)) (a : World) : LeK B T G a a.drew := LeK.of_below hG _ _ (Below.refl _ _).drew
theorem LeK.below {a b : World} (h : LeK B T G a b) (hB : B ≤ a.heap.size) : Below B a b :=
  ⟨h.os, h.tape, h.output, h.size, fun k hk => by
    have hx : a.heap[k]? = some a.heap[k] := Array.getElem?_eq_getElem (by omega)
    rw [hx]; exact h.block k _ hx (.inl hk)⟩
def boxK (B : Nat) (t : TypeId) (n i : Nat) : Rl := fun v s W => v = .pointer (some ⟨(s i), 0, none⟩) ∧ B ≤ s i ∧ ∃ cs, W.heap[s i]? = some (.cells cs t (0, 0)) ∧ cs.size = n
theorem boxK_k {ds : List (List Nat)} {t : TypeId} {n i : Nat} (ht : T t = true) : KeepsL (LeK B T G) ds i (boxK B t n i) :=
  ⟨fun _ _ _ _ hb h => by
    obtain ⟨h1, h2, cs, h3, h4⟩ := h
    obtain ⟨cs', h5, h6, -⟩ := hb.kind _ cs t h2 ht h3
    exact ⟨h1, h2, cs', h5, h6.trans h4⟩, fun v s s' W e h => by have := e i (by simp); unfold boxK at *; rw [← this]; exact h⟩
theorem bxK_k {ds : List (List Nat)} {t : TypeId} {cs : Array Value} {i : Nat} (ht : T t = false) : KeepsL (LeK B T G) ds i (bx i cs t) :=
  ⟨fun _ _ _ _ hb h => ⟨h.1, hb.block _ _ h.2 (.inr fun cs' t' ht' e => by simp only [Obj.cells.injEq] at e; rw [← e.2.1, ht] at ht'; cases ht')⟩, fun v s s' W e h => by have := e i (by simp); unfold bx at *; rw [← this]; exact h⟩
def stoK (B : Nat) (t : TypeId) (G : TypeId → Array Value → World → Prop) (j : Nat) : Rl := fun _ s W => B ≤ s j ∧ ∃ cs, W.heap[s j]? = some (.cells cs t (0, 0)) ∧ G t cs W
theorem stoK_k {ds : List (List Nat)} {t : TypeId} {i j : Nat} (ht : T t = true) (hj : j ∈ i :: ds.getD i []) : KeepsL (LeK B T G) ds i (stoK B t G j) :=
  ⟨fun _ _ _ _ hb h => by
    obtain ⟨h2, cs, h3, h4⟩ := h
    obtain ⟨cs', h5, -, h6⟩ := hb.kind _ cs t h2 ht h3
    exact ⟨h2, cs', h5, h6 h4⟩, fun v s s' W e h => by have := e j hj; unfold stoK at *; rw [← this]; exact h⟩
theorem OwnI.leK {B' : Nat} {xs : List Int} {g c : Nat} {W W' : World} (h : OwnI B' xs g c W) (hT : T 3 = false) (hb : LeK B T G W W') : OwnI B' xs g c W' := by
  refine h.same hb.size ?_
  rcases h.2.2.2 with ⟨e, -⟩ | ⟨g', cap, cur, e, -, h6, -⟩
  · cases e
  · cases e
    rw [h6]
    exact hb.block _ _ h6 (.inr fun cs t ht e => by simp only [Obj.cells.injEq] at e; rw [← e.2.1, hT] at ht; cases ht)
theorem TyBlk.leK {B' : Nat} {b : Bl} {v : Value} {W W' : World} (h : TyBlk B' b v W) (hT : T 3 = false) (hb : LeK B T G W W') : TyBlk B' b v W' := by
  obtain ⟨g1, c1, g2, c2, g3, c3, e, h1, h2, h3⟩ := h
  exact ⟨g1, c1, g2, c2, g3, c3, e, h1.leK hT hb, h2.leK hT hb, h3.leK hT hb⟩
theorem tyK_k {ds : List (List Nat)} {i : Nat} {B' : Nat} {b : Bl} (hT : T 3 = false) : KeepsL (LeK B T G) ds i (ab fun v W => TyBlk B' b v W) :=
  ⟨fun _ _ _ _ hb h => TyBlk.leK h hT hb, fun _ _ _ _ _ h => h⟩
end
section
variable {P : Program} {ops : Array Oper} {Q : Exit → Act → World → Prop}
theorem opK {B : Nat} {T : TypeId → Bool} {G : TypeId → Array Value → World → Prop} {t : TypeId} {i n : Nat} {a : Act} {W : World} {s : Nat → Nat} {cs : Array Value} {o : Oper} (hG : ∀ t, GoodB (G t)) (hB : B ≤ W.heap.size) (ho : ops[i]? = some o) (hg : o.guard = none) (hr : (execOp a.eval o).run P W = .ok (.value (.pointer (some ⟨W.heap.size, 0, none⟩))) (W.alloc (.cells cs t))) (hn : cs.size = n) :
    OpDoL (LeK B T G) P ops Q i a W (fun v W' => boxK B t n i v (upd s i W.heap.size) W') :=
  opDoL_value ho hg hr (LeK.of_below hG _ _ (balloc1 _ _)) ⟨by rw [upd_at], by rw [upd_at]; exact hB, cs, by rw [upd_at]; exact blk_new rfl, hn⟩
theorem stoK_do {B : Nat} {T : TypeId → Bool} {G : TypeId → Array Value → World → Prop} {t : TypeId} {i j n : Nat} {a : Act} {W : World} {s : Nat → Nat} {ty tt : TypeId} {x y : Operand} {pos : String} {af : Array Edge} {v : Value} (fin : Array Value) {g0 : Value}
    (ho : ops[i]? = some { dst := none, op := .store ty x y, type := tt, pos := pos, after := af, guard := none }) (ht : T t = true) (hij : j ≠ i) (hbox : boxK B t n j g0 s W) (hx : a.eval x = .pointer (some ⟨(s j), 0, none⟩)) (hy : a.eval y = v) (hf : v.cells = fin) (hn : fin.size = n) (hi : (P.info? ty).map (·.size) = some n) (h1 : fin.toList.all (·.oneCell') = true) (hgood : G t fin W)
    (hst : ∀ t' cs W', T t' = true → (∀ k x, k ≠ s j → W.heap[k]? = some x → W'.heap[k]? = some x) → W.heap.size ≤ W'.heap.size → (∃ cs0, W.heap[s j]? = some (.cells cs0 t (0, 0))) → G t' cs W → G t' cs W') :
    OpDoL (LeK B T G) P ops Q i a W (fun v W' => stoK B t G j v (upd s i W.heap.size) W') := by
  obtain ⟨-, hB, cs, hb, hsz⟩ := hbox
  subst hf
  have e : (cs.toList.take 0 ++ v.cells.toList ++ cs.toList.drop (0 + v.cells.size)).toArray = v.cells := by
    have : cs.toList.drop (0 + v.cells.size) = [] := List.drop_eq_nil_of_le (by simp; omega)
    rw [this]; simp
  have hr := run_seg (P := P) (a := a) (dst := none) (ty := ty) (tt := tt) (x := x) (y := y) (pos := pos) (af := af) (gd := none) (W' := W.setRow (s j) v.cells) rfl hx hy hb (by rw [hi, hn]) (decide_eq_true (by omega)) h1 e
  have hot : ∀ k x, k ≠ s j → W.heap[k]? = some x → (W.setRow (s j) v.cells).heap[k]? = some x := fun k x hk hx => by rw [setRow_other W (s j) k v.cells hk]; exact hx
  have hz : W.heap.size ≤ (W.setRow (s j) v.cells).heap.size := by rw [setRow_size]; exact Nat.le_refl _
  have hnew := setRow_heap W (s j) cs v.cells t (0, 0) hb
  refine opDoL_skip ho ⟨rfl, rfl⟩ hr ⟨rfl, rfl, rfl, hz, fun k x hk hn => ?_, fun k cs' t' hk ht' hx => ?_⟩ ?_
  · by_cases e : k = s j
    · subst e
      rw [hb] at hk
      rcases hn with hn | hn
      · omega
      · exact absurd (Option.some.inj hk).symm (hn cs t ht)
    · exact hot k x e hk
  · by_cases e : k = s j
    · subst e
      rw [hb] at hx
      obtain ⟨rfl, rfl⟩ : cs = cs' ∧ t = t' := by simp only [Option.some.injEq, Obj.cells.injEq] at hx; exact ⟨hx.1, hx.2.1⟩
      exact ⟨v.cells, hnew, by omega, fun _ => hst _ _ _ ht hot hz ⟨cs, hb⟩ hgood⟩
    · exact ⟨cs', hot k _ e hx, rfl, fun g => hst _ cs' _ ht' hot hz ⟨cs, hb⟩ g⟩
  · show B ≤ (upd s i W.heap.size) j ∧ _
    rw [upd_other s _ hij]
    exact ⟨hB, v.cells, hnew, hst _ _ _ ht hot hz ⟨cs, hb⟩ hgood⟩
end
def twoG (A : TypeId) (r : Bl) (fin : Array Value) : TypeId → Array Value → World → Prop := fun t => if (t == A) = true then tyC r else justC fin
def twoT (A C : TypeId) : TypeId → Bool := fun t => t == A || t == C
theorem twoG_b {A : TypeId} {r : Bl} {fin : Array Value} (t : TypeId) : GoodB (twoG A r fin t) := by
  unfold twoG; split
  · exact tyC_b
  · exact justC_b
theorem twoG_s {A : TypeId} {r : Bl} {fin : Array Value} {t : TypeId} {T : TypeId → Bool} {W : World} {b : Nat} (hT : (t != 3) = true) (t' : TypeId) (cs : Array Value) (W' : World) (_ : T t' = true) (hot : ∀ k x, k ≠ b → W.heap[k]? = some x → W'.heap[k]? = some x) (hz : W.heap.size ≤ W'.heap.size) (hb : ∃ cs0, W.heap[b]? = some (.cells cs0 t (0, 0))) (h : twoG A r fin t' cs W) : twoG A r fin t' cs W' := by
  unfold twoG at *
  split
  · rename_i e; rw [if_pos e] at h; exact tyC_s hT hot hz hb h
  · rename_i e; rw [if_neg e] at h; exact h
open Go.RowKit
theorem own_ne1 {B : Nat} {xs : List Int} {g c b : Nat} {W : World} {v : Value} {T : TypeId} {p : Nat × Nat} (h : OwnI B xs g c W) (hl : 2 ≤ xs.length) (hb : W.heap[b]? = some (.cells #[v] T p)) : g ≠ b := by
  rintro rfl
  have h1 := OwnI.cell h (i := 1) (by omega)
  rw [Joins.cell_of_block hb 1] at h1
  exact absurd h1 (by simp)
theorem any_around {n off least x : Int} {f : Int → Bool} (h1 : n - off ≤ x) (h2 : x ≤ n + off) (h3 : least ≤ x) (h4 : x ≤ 3000) (hf : f x = true) : (aroundL n off least).any f = true := by
  unfold aroundL rangeL
  rw [List.any_eq_true]
  exact ⟨x, List.mem_map.2 ⟨(x - max least (n - off)).toNat, List.mem_range.2 (by omega), by omega⟩, hf⟩
def Near (b s : Bl) (off : Int) : Prop :=
  s.isOpen = b.isOpen ∧ s.slot = b.slot ∧ (s.height - off ≤ b.height ∧ b.height ≤ s.height + off) ∧ (∀ i, i < 4 → s.panels.getD i 0 - off ≤ b.panels.getD i 0 ∧ b.panels.getD i 0 ≤ s.panels.getD i 0 + off) ∧
    (∀ i, i < 2 → s.bottom.getD i 0 - off ≤ b.bottom.getD i 0 ∧ b.bottom.getD i 0 ≤ s.bottom.getD i 0 + off) ∧ (b.isOpen = false → ∀ i, i < 2 → s.top.getD i 0 - off ≤ b.top.getD i 0 ∧ b.top.getD i 0 ≤ s.top.getD i 0 + off)
theorem tr_pan (b : Bl) (w : Wi) {i : Nat} (hi : i < 4) (c : Int) : holdsR b w i c = panS w i (b.panels.getD i 0) c := by
  match i, hi with
  | 0, _ => rfl
  | 1, _ => rfl
  | 2, _ => rfl
  | 3, _ => rfl
theorem near_gap {b s : Bl} {w : Wi} {off c : Int} (hn : Near b s off) (hck : checkErr b = 0) (hw : b.isOpen = w.isOpen) (h : ∀ k, k < 10 → holdsR b w k c = true) {i : Nat} (hi : i < 2) :
    gapS w (1 - i) (b.panels.getD i 0) (s.bottom.getD (1 - i) 0) off c = true ∧ (s.isOpen || gapS w (1 - i) (b.panels.getD i 0) (s.top.getD (1 - i) 0) off c) = true := by
  obtain ⟨e1, e2, e3, e4, e5, e6⟩ := hn
  obtain ⟨-, -, -, gh, -, gt0, gt1, gu0, gu1⟩ := good_nums hck
  constructor
  · match i, hi with
    | 0, _ => exact any_around (x := b.bottom.getD 1 0) (e5 1 (by decide)).1 (e5 1 (by decide)).2 gu1.1 gu1.2 (h 8 (by decide))
    | 1, _ => exact any_around (x := b.bottom.getD 0 0) (e5 0 (by decide)).1 (e5 0 (by decide)).2 gu0.1 gu0.2 (h 7 (by decide))
  · rw [e1]
    cases ho : b.isOpen with
    | true => rfl
    | false =>
      have hwo : w.isOpen = false := by rw [← hw]; exact ho
      rw [Bool.false_or]
      have h6 : ((b.isOpen || w.isOpen) || fitsR (gapR b true false c) w.inner.1 w.inner.2) = true := h 6 (by decide)
      have h5 : (if (b.isOpen || w.isOpen) = true then (b.isOpen && w.isOpen) else fitsR (gapR b true true c) w.outer.1 w.outer.2) = true := h 5 (by decide)
      rw [ho, hwo] at h6 h5
      match i, hi with
      | 0, _ => exact any_around (x := b.top.getD 1 0) (e6 ho 1 (by decide)).1 (e6 ho 1 (by decide)).2 gt1.1 gt1.2 h6
      | 1, _ => exact any_around (x := b.top.getD 0 0) (e6 ho 0 (by decide)).1 (e6 ho 0 (by decide)).2 gt0.1 gt0.2 h5
theorem near_may {b s : Bl} {w : Wi} {off c : Int} (hn : Near b s off) (ho : 0 ≤ off) (hck : checkErr b = 0) (hw : b.isOpen = w.isOpen) (h : ∀ k, k < 10 → holdsR b w k c = true) : closesOf s w off c = true := by
  have hg := fun (i : Nat) (hi : i < 2) => near_gap hn hck hw h hi
  obtain ⟨e1, e2, e3, e4, e5, e6⟩ := hn
  obtain ⟨-, -, gs, gh, ⟨gp0, gp1, gp2, gp3⟩, -⟩ := good_nums hck
  rw [← mayR_eq]
  unfold mayR
  have h5 : (!(holdsR s w 5 c) && (s.isOpen || w.isOpen)) = false := by
    have hs : s.isOpen = w.isOpen := e1.trans hw
    cases hwo : w.isOpen with
    | false => rw [hs, hwo]; simp
    | true =>
      have : holdsR s w 5 c = true := by show (if (s.isOpen || w.isOpen) = true then (s.isOpen && w.isOpen) else _) = true; rw [hs, hwo]; rfl
      rw [this]; rfl
  have h9 : decide (c ≤ 1000 * b.slot) = true := h 9 (by decide)
  have h9' := of_decide_eq_true h9
  rw [h5, if_neg Bool.false_ne_true, if_neg (by rw [show decide (c ≤ 1000 * min 20 (s.slot + off)) = true from decide_eq_true (by rw [e2]; omega)]; exact Bool.false_ne_true), Bool.and_eq_true]
  constructor
  · have h4 : highS b.isOpen w b.height c = true := h 4 (by decide)
    rw [← e1] at h4
    exact any_around (x := b.height) e3.1 e3.2 gh.1 gh.2 h4
  · rw [List.all_eq_true]
    intro i hi
    have hi4 := List.mem_range.1 hi
    have gp : 1 ≤ b.panels.getD i 0 ∧ b.panels.getD i 0 ≤ 3000 := by
      match i, hi4 with
      | 0, _ => exact gp0
      | 1, _ => exact gp1
      | 2, _ => exact gp2
      | 3, _ => exact gp3
    refine any_around (x := b.panels.getD i 0) (e4 i hi4).1 (e4 i hi4).2 gp.1 gp.2 ?_
    have hp : panS w i (b.panels.getD i 0) c = true := by rw [← tr_pan b w hi4]; exact h i (by omega)
    unfold fineR
    by_cases h2 : i < 2
    · rw [if_pos h2, hp, (hg i h2).1, (hg i h2).2]; rfl
    · rw [if_neg h2]; exact hp
theorem mayFrom_some {f : Int → Bool} : ∀ (n : Nat) (lo c : Int), lo ≤ c → c < lo + (n : Int) → f c = true → ∃ m, mayFrom f n lo = (m, 0) ∧ lo ≤ m ∧ m ≤ c
  | 0, lo, c, h1, h2, _ => by omega
  | n + 1, lo, c, h1, h2, h3 => by
    unfold mayFrom
    by_cases h : f lo = true
    · exact ⟨lo, if_pos h, Int.le_refl _, h1⟩
    · have hne : lo ≠ c := fun e => h (e ▸ h3)
      obtain ⟨m, e, m1, m2⟩ := mayFrom_some n (lo + 1) c (by omega) (by omega) h3
      exact ⟨m, by rw [if_neg h]; exact e, by omega, m2⟩
theorem near_inner {b s : Bl} {off : Int} (hn : Near b s off) (ho : 0 ≤ off) (hck : checkErr b = 0) (hcs : checkErr s = 0) {lo hi c : Int} (h1 : lo ≤ c) (h2 : c ≤ hi) {j : Nat} (hj : j < 9) :
    (nthP (innerL s (lo, hi) off) j).1 ≤ mic b c j ∧ mic b c j ≤ (nthP (innerL s (lo, hi) off) j).2 := by
  have hot := open_top hck
  have hos := open_top hcs
  obtain ⟨e1, e2, e3, e4, e5, e6⟩ := hn
  obtain ⟨⟨hl1, hl2, hl3⟩, -, -, gh, ⟨gp0, gp1, gp2, gp3⟩, gt0, gt1, gu0, gu1⟩ := good_nums hck
  obtain ⟨⟨kl1, kl2, kl3⟩, -, -, kh, ⟨kp0, kp1, kp2, kp3⟩, kt0, kt1, ku0, ku1⟩ := good_nums hcs
  have f0 := e4 0 (by decide); have f1 := e4 1 (by decide); have f2 := e4 2 (by decide); have f3 := e4 3 (by decide)
  have f4 := e5 0 (by decide); have f5 := e5 1 (by decide); have f6 := fun h => e6 h 0 (by decide); have f7 := fun h => e6 h 1 (by decide)
  clear e4 e5 e6 e2
  obtain ⟨tab, panels, hh, top, bottom, sl, op⟩ := b
  obtain ⟨tab', panels', hh', top', bottom', sl', op'⟩ := s
  obtain ⟨p0, p1, p2, p3, rfl⟩ := list_four hl1
  obtain ⟨t0, t1, rfl⟩ := list_two hl2
  obtain ⟨u0, u1, rfl⟩ := list_two hl3
  obtain ⟨q0, q1, q2, q3, rfl⟩ := list_four kl1
  obtain ⟨r0, r1, rfl⟩ := list_two kl2
  obtain ⟨z0, z1, rfl⟩ := list_two kl3
  simp only [List.getD_cons_zero, List.getD_cons_succ] at *
  subst e1
  cases op'
  · have f6 := f6 rfl; have f7 := f7 rfl
    match j, hj with
    | 0, _ => show 1000 * clamp 1 (-off) q0 - 1 * hi ≤ 1000 * p0 - c ∧ 1000 * p0 - c ≤ 1000 * clamp 1 off q0 - 1 * lo; unfold clamp; omega
    | 1, _ => show 1000 * clamp 1 (-off) q1 - 1 * hi ≤ 1000 * p1 - c ∧ 1000 * p1 - c ≤ 1000 * clamp 1 off q1 - 1 * lo; unfold clamp; omega
    | 2, _ => show 1000 * clamp 1 (-off) q2 - 1 * hi ≤ 1000 * p2 - c ∧ 1000 * p2 - c ≤ 1000 * clamp 1 off q2 - 1 * lo; unfold clamp; omega
    | 3, _ => show 1000 * clamp 1 (-off) q3 - 1 * hi ≤ 1000 * p3 - c ∧ 1000 * p3 - c ≤ 1000 * clamp 1 off q3 - 1 * lo; unfold clamp; omega
    | 4, _ => show 1000 * clamp 1 (-off) hh' - 2 * hi ≤ 1000 * hh - 2 * c ∧ 1000 * hh - 2 * c ≤ 1000 * clamp 1 off hh' - 2 * lo; unfold clamp; omega
    | 5, _ => show 1000 * (clamp 1 (-off) q1 - 2 * clamp 0 off r0) - 1 * hi ≤ 1000 * p1 - c - 2000 * t0 ∧ 1000 * p1 - c - 2000 * t0 ≤ 1000 * (clamp 1 off q1 - 2 * clamp 0 (-off) r0) - 1 * lo; unfold clamp; omega
    | 6, _ => show 1000 * (clamp 1 (-off) q0 - 2 * clamp 0 off r1) - 1 * hi ≤ 1000 * p0 - c - 2000 * t1 ∧ 1000 * p0 - c - 2000 * t1 ≤ 1000 * (clamp 1 off q0 - 2 * clamp 0 (-off) r1) - 1 * lo; unfold clamp; omega
    | 7, _ => show 1000 * (clamp 1 (-off) q1 - 2 * clamp 0 off z0) - 1 * hi ≤ 1000 * p1 - c - 2000 * u0 ∧ 1000 * p1 - c - 2000 * u0 ≤ 1000 * (clamp 1 off q1 - 2 * clamp 0 (-off) z0) - 1 * lo; unfold clamp; omega
    | 8, _ => show 1000 * (clamp 1 (-off) q0 - 2 * clamp 0 off z1) - 1 * hi ≤ 1000 * p0 - c - 2000 * u1 ∧ 1000 * p0 - c - 2000 * u1 ≤ 1000 * (clamp 1 off q0 - 2 * clamp 0 (-off) z1) - 1 * lo; unfold clamp; omega
  · obtain ⟨rfl, rfl⟩ := hot rfl
    obtain ⟨rfl, rfl⟩ := hos rfl
    match j, hj with
    | 0, _ => show 1000 * clamp 1 (-off) q0 - 1 * hi ≤ 1000 * p0 - c ∧ 1000 * p0 - c ≤ 1000 * clamp 1 off q0 - 1 * lo; unfold clamp; omega
    | 1, _ => show 1000 * clamp 1 (-off) q1 - 1 * hi ≤ 1000 * p1 - c ∧ 1000 * p1 - c ≤ 1000 * clamp 1 off q1 - 1 * lo; unfold clamp; omega
    | 2, _ => show 1000 * clamp 1 (-off) q2 - 1 * hi ≤ 1000 * p2 - c ∧ 1000 * p2 - c ≤ 1000 * clamp 1 off q2 - 1 * lo; unfold clamp; omega
    | 3, _ => show 1000 * clamp 1 (-off) q3 - 1 * hi ≤ 1000 * p3 - c ∧ 1000 * p3 - c ≤ 1000 * clamp 1 off q3 - 1 * lo; unfold clamp; omega
    | 4, _ => show 1000 * clamp 1 (-off) hh' - 1 * hi ≤ 1000 * hh - 2 * c + c ∧ 1000 * hh - 2 * c + c ≤ 1000 * clamp 1 off hh' - 1 * lo; unfold clamp; omega
    | 5, _ => show 1000 * (clamp 1 (-off) q1 - 2 * 0) - 1 * hi ≤ 1000 * p1 - c - 2000 * 0 ∧ 1000 * p1 - c - 2000 * 0 ≤ 1000 * (clamp 1 off q1 - 2 * 0) - 1 * lo; unfold clamp; omega
    | 6, _ => show 1000 * (clamp 1 (-off) q0 - 2 * 0) - 1 * hi ≤ 1000 * p0 - c - 2000 * 0 ∧ 1000 * p0 - c - 2000 * 0 ≤ 1000 * (clamp 1 off q0 - 2 * 0) - 1 * lo; unfold clamp; omega
    | 7, _ => show 1000 * (clamp 1 (-off) q1 - 2 * clamp 0 off z0) - 1 * hi ≤ 1000 * p1 - c - 2000 * u0 ∧ 1000 * p1 - c - 2000 * u0 ≤ 1000 * (clamp 1 off q1 - 2 * clamp 0 (-off) z0) - 1 * lo; unfold clamp; omega
    | 8, _ => show 1000 * (clamp 1 (-off) q0 - 2 * clamp 0 off z1) - 1 * hi ≤ 1000 * p0 - c - 2000 * u1 ∧ 1000 * p0 - c - 2000 * u1 ≤ 1000 * (clamp 1 off q0 - 2 * clamp 0 (-off) z1) - 1 * lo; unfold clamp; omega
theorem near_self (b : Bl) : Near b b 0 := ⟨rfl, rfl, ⟨by omega, by omega⟩, fun i _ => ⟨by omega, by omega⟩, fun i _ => ⟨by omega, by omega⟩, fun _ i _ => ⟨by omega, by omega⟩⟩
theorem truth_may {b s : Bl} {w : Wi} {off c lo hi : Int} (hn : Near b s off) (ho1 : 0 ≤ off) (ho2 : off ≤ 5) (hck : checkErr b = 0) (hcs : checkErr s = 0) (hwv : wishErr w = 0) (hw : b.isOpen = w.isOpen) (h : ∀ k, k < 10 → holdsR b w k c = true) (h1 : 1 ≤ lo) (h2 : lo ≤ c) (h3 : c ≤ hi) (h4 : hi ≤ 10000) :
    ∃ n, mayOf s w lo hi off = (n, 0) ∧ lo ≤ n ∧ n ≤ c := by
  rw [mayOf_e3 (wished_ok hcs hwv h1 (by omega) h4) (inB_iff.2 ⟨ho1, ho2⟩)]
  exact mayFrom_some _ _ _ h2 (by omega) (near_may hn ho1 hck hw h)
theorem truth_may0 {b : Bl} {w : Wi} {c hi : Int} (hck : checkErr b = 0) (hwv : wishErr w = 0) (hw : b.isOpen = w.isOpen) (h : ∀ k, k < 10 → holdsR b w k c = true) (h1 : 1 ≤ c) (h3 : c ≤ hi) (h4 : hi ≤ 10000) : mayOf b w c hi 0 = (c, 0) := by
  rw [mayOf_e3 (wished_ok hck hwv h1 h3 h4) (by rfl)]
  exact mayFrom_at _ _ _ (Int.le_refl _) (by omega) (fun d h5 h6 => by omega) (near_may (near_self b) (Int.le_refl _) hck hw h)
theorem fold_holds {x : Sh} (gx : ShIn x) {c : Int} (h1 : (shCal x).1 ≤ c) (h2 : c ≤ (shCal x).2) {k : Nat} (hk : k < 10) : holdsR (twinB (shBl x)) (wishOf x (twinB (shBl x)) (shCal x).1 (shCal x).2) k c = true := by
  have hf := fold_k gx hk
  have hc := shCal_in gx
  exact (holdsR_iff hk (by omega) (by omega)).2 ⟨by omega, by omega⟩
theorem tmod_le {n m : Int} (hm : 0 ≤ m) : -m ≤ n.tmod (m + 1) ∧ n.tmod (m + 1) ≤ m := by
  rcases Int.lt_or_le n 0 with h | h
  · have h1 : n.tmod (m + 1) = -((-n).tmod (m + 1)) := by rw [Int.neg_tmod]; omega
    have h2 := Int.tmod_nonneg (m + 1) (show 0 ≤ -n by omega)
    have h3 := Int.tmod_lt_of_pos (-n) (show 0 < m + 1 by omega)
    omega
  · have h2 := Int.tmod_nonneg (m + 1) h
    have h3 := Int.tmod_lt_of_pos n (show 0 < m + 1 by omega)
    omega
theorem own_lit {tab p0 p1 p2 p3 hh t0 t1 u0 u1 sl : Int} {op : Bool} {b : Bl} (hb : b = ⟨tab, [p0, p1, p2, p3], hh, [t0, t1], [u0, u1], sl, op⟩) (a1 a2 a3 : Option Addr) (c1 c2 c3 : Nat) (w : World) (h1 : Ii w a1 b.panels.length c1 b.panels) (h2 : Ii w a2 b.top.length c2 b.top) (h3 : Ii w a3 b.bottom.length c3 b.bottom) :
    Calls Tryz.prog 13 #[.agg #[.int .i64 b.tab, .slice a1 (b.panels.length) c1, .int .i64 b.height, .slice a2 (b.top.length) c2, .slice a3 (b.bottom.length) c3, .int .i64 b.slot, .bool b.isOpen]] w (OwBlkP ⟨tab, [p0, p1, p2, p3], hh, [t0, t1], [u0, u1], sl, op⟩ w) := by
  subst hb
  exact own_own a1 a2 a3 c1 c2 c3 tab p0 p1 p2 p3 hh t0 t1 u0 u1 sl op w h1 h2 h3
theorem own_lg {tab p0 p1 p2 p3 hh t0 t1 u0 u1 sl : Int} {op : Bool} {b : Bl} (hb : b = ⟨tab, [p0, p1, p2, p3], hh, [t0, t1], [u0, u1], sl, op⟩) (a1 a2 a3 : Option Addr) (c1 c2 c3 : Nat) (w : World) (h1 : Ii w a1 4 c1 [p0, p1, p2, p3]) (h2 : Ii w a2 2 c2 [t0, t1]) (h3 : Ii w a3 2 c3 [u0, u1]) :
    Calls Tryz.prog 13 #[.agg #[.int .i64 tab, .slice a1 4 c1, .int .i64 hh, .slice a2 2 c2, .slice a3 2 c3, .int .i64 sl, .bool op]] w (NwBlkP b w) := by
  subst hb
  exact own_any a1 a2 a3 c1 c2 c3 ⟨tab, [p0, p1, p2, p3], hh, [t0, t1], [u0, u1], sl, op⟩ w h1 h2 h3 (by simp) (by simp) (by simp)
theorem seen_near {tab p0 p1 p2 p3 hh t0 t1 u0 u1 sl off : Int} {op : Bool} {dd : Nat → Int} (h : ∀ j, j < 9 → -off ≤ dd j ∧ dd j ≤ off) (g0 : 0 ≤ t0) (g1 : 0 ≤ t1) (g2 : 0 ≤ u0) (g3 : 0 ≤ u1) (ho : 0 ≤ off) :
    Near ⟨tab, [p0, p1, p2, p3], hh, [t0, t1], [u0, u1], sl, op⟩ ⟨tab, [p0 + (dd 0), p1 + (dd 1), p2 + (dd 2), p3 + (dd 3)], hh + (dd 8), [if op = true then t0 else max 0 (t0 + dd 6), if op = true then t1 else max 0 (t1 + dd 7)], [max 0 (u0 + (dd 4)), max 0 (u1 + (dd 5))], sl, op⟩ off := by
  have a0 := h 0 (by decide); have a1 := h 1 (by decide); have a2 := h 2 (by decide); have a3 := h 3 (by decide); have a4 := h 4 (by decide)
  have a5 := h 5 (by decide); have a6 := h 6 (by decide); have a7 := h 7 (by decide); have a8 := h 8 (by decide)
  refine ⟨rfl, rfl, ?_, fun i hi => ?_, fun i hi => ?_, fun e i hi => ?_⟩
  · show hh + dd 8 - off ≤ hh ∧ hh ≤ hh + dd 8 + off; omega
  · match i, hi with
    | 0, _ => show p0 + dd 0 - off ≤ p0 ∧ p0 ≤ p0 + dd 0 + off; omega
    | 1, _ => show p1 + dd 1 - off ≤ p1 ∧ p1 ≤ p1 + dd 1 + off; omega
    | 2, _ => show p2 + dd 2 - off ≤ p2 ∧ p2 ≤ p2 + dd 2 + off; omega
    | 3, _ => show p3 + dd 3 - off ≤ p3 ∧ p3 ≤ p3 + dd 3 + off; omega
  · match i, hi with
    | 0, _ => show max 0 (u0 + dd 4) - off ≤ u0 ∧ u0 ≤ max 0 (u0 + dd 4) + off; omega
    | 1, _ => show max 0 (u1 + dd 5) - off ≤ u1 ∧ u1 ≤ max 0 (u1 + dd 5) + off; omega
  · obtain rfl : op = false := e
    match i, hi with
    | 0, _ => show max 0 (t0 + dd 6) - off ≤ t0 ∧ t0 ≤ max 0 (t0 + dd 6) + off; omega
    | 1, _ => show max 0 (t1 + dd 7) - off ≤ t1 ∧ t1 ≤ max 0 (t1 + dd 7) + off; omega
theorem seen_len {tab p0 p1 p2 p3 hh t0 t1 u0 u1 sl : Int} {op : Bool} (s : Sp) (off : Int) : (innerL ⟨tab, [p0, p1, p2, p3], hh, [t0, t1], [u0, u1], sl, op⟩ s off).length = 9 := by
  cases op <;> rfl
theorem seen_ok {p0 p1 p2 p3 hh t0 t1 u0 u1 : Int} {op : Bool} {dd : Nat → Int} (h : ∀ j, j < 9 → -5 ≤ dd j ∧ dd j ≤ 5) (g0 : 6 ≤ p0 ∧ p0 ≤ 1000) (g1 : 6 ≤ p1 ∧ p1 ≤ 1000) (g2 : 6 ≤ p2 ∧ p2 ≤ 1000) (g3 : 6 ≤ p3 ∧ p3 ≤ 1000) (gh : 6 ≤ hh ∧ hh ≤ 1000) (gt0 : 0 ≤ t0 ∧ t0 ≤ 1000) (gt1 : 0 ≤ t1 ∧ t1 ≤ 1000) (gu0 : 0 ≤ u0 ∧ u0 ≤ 1000) (gu1 : 0 ≤ u1 ∧ u1 ≤ 1000) (ho : op = true → t0 = 0 ∧ t1 = 0) :
    checkErr ⟨30, [p0 + (dd 0), p1 + (dd 1), p2 + (dd 2), p3 + (dd 3)], hh + (dd 8), [if op = true then t0 else max 0 (t0 + dd 6), if op = true then t1 else max 0 (t1 + dd 7)], [max 0 (u0 + (dd 4)), max 0 (u1 + (dd 5))], 9, op⟩ = 0 := by
  have a0 := h 0 (by decide); have a1 := h 1 (by decide); have a2 := h 2 (by decide); have a3 := h 3 (by decide); have a4 := h 4 (by decide)
  have a5 := h 5 (by decide); have a6 := h 6 (by decide); have a7 := h 7 (by decide); have a8 := h 8 (by decide)
  refine check_ok (by omega) (by omega) (by omega) (by omega) (by omega) (by omega) (by omega) ?_ ?_ (by omega) (by omega) fun e => by rw [if_pos e, if_pos e]; exact ho e
  · split <;> omega
  · split <;> omega
theorem ws_cell {ws : Nat → Int} {j : Nat} (h : j < 9) : (#[.int .i8 (ws 0), .int .i8 (ws 1), .int .i8 (ws 2), .int .i8 (ws 3), .int .i8 (ws 4), .int .i8 (ws 5), .int .i8 (ws 6), .int .i8 (ws 7), .int .i8 (ws 8)] : Array Value)[j]? = some (.int .i8 (ws j)) := by
  match j, h with
  | 0, _ => rfl
  | 1, _ => rfl
  | 2, _ => rfl
  | 3, _ => rfl
  | 4, _ => rfl
  | 5, _ => rfl
  | 6, _ => rfl
  | 7, _ => rfl
  | 8, _ => rfl
theorem by_any (ws : Nat → Int) (off : Int) (j gw go : Nat) (w : World) (hw1 : w.heap[gw]? = some (.cells #[.int .i8 (ws 0), .int .i8 (ws 1), .int .i8 (ws 2), .int .i8 (ws 3), .int .i8 (ws 4), .int .i8 (ws 5), .int .i8 (ws 6), .int .i8 (ws 7), .int .i8 (ws 8)] 85 (0, 0))) (hw2 : w.heap[go]? = some (.cells #[.int .i64 off] 3 (0, 0))) (hj9 : j < 9) (gws : -128 ≤ ws j ∧ ws j ≤ 127) (gof : 0 ≤ off ∧ off ≤ 5) :
  Calls Tryz.prog 40 #[.int .i64 ((j : Int)), .pointer (some ⟨gw, 0, none⟩), .pointer (some ⟨go, 0, none⟩)] w (fun e w' => e = .returned (.int .i64 ((ws j).tmod (off + 1))) ∧ Below w.heap.size w w') := by
 have hj9i : (j : Int) < 9 := by omega
 have gtm := tmod_le (n := ws j) gof.1
 refine calls_fr Tryz.func40 Tryz.ntmps40 rfl rfl fun g hg => ?_
 have k0 : g 0 = .int .i64 ((j : Int)) := hg 0
 have k1 : g 1 = .pointer (some ⟨gw, 0, none⟩) := hg 1
 have k2 : g 2 = .pointer (some ⟨go, 0, none⟩) := hg 2
 clear hg
 have fB0 : Below w.heap.size w w := Below.refl _ _
 have lt_gw := ltb hw1
 have lt_go := ltb hw2
 refine rw_ 1 [(4, 0)] [[]] (rel [iI 0])
  ⟨fun f s W c d h i k a => opz, trivial⟩ ?_
 intro f1 s1 W1 hB1 g1 hg1 z1
 have b1_0 := hB1.b hw1
 have b1_1 := hB1.b hw2
 have k1_0 := kt hg1 0 k0
 have k1_1 := kt hg1 1 k1
 have k1_2 := kt hg1 2 k2
 refine rw_ 8 [(5, 0), (6, 1), (7, 2), (8, 3), (9, 4), (10, 5), (11, 6), (4, 7)] [[], [0], [1], [2], [], [4], [3, 5], [6]] (rel [iI ((j : Int)), is (.pointer (some ⟨gw, j, none⟩)), is (.int .i8 ((ws j))), iI ((ws j)), iI off, iI (off + 1), iI ((ws j).tmod (off + 1)), iI ((ws j).tmod (off + 1))])
  ⟨fun f s W c d h i k a => opm (a.v 0 k1_0),
  fun f s W c d h i k a => opv rfl rfl (by simp [go_sem, a.e 1 k1_1, a.e 5 (d 0 rfl), hj9, hj9i]) rfl,
  fun f s W c d h i k a => by have cm := (cb b1_0 c j).trans (ws_cell hj9); exact opv rfl rfl (by simp [go_sem, a.e 6 (d 1 rfl), cm]) rfl,
  fun f s W c d h i k a => by have cv_ := IntWalk.i64_in (ws j) (by omega); exact opv rfl rfl (by simp [go_sem, a.e 7 (d 2 rfl), cv_]) rfl,
  fun f s W c d h i k a => opv rfl rfl (by simp [go_sem, a.e 2 k1_2, cb b1_1 c 0]) rfl,
  fun f s W c d h i k a => opv rfl rfl (by simp [go_sem, a.e 9 (d 4 rfl), IntWalk.i64_in (off + 1) (by omega)]) rfl,
  fun f s W c d h i k a => by have qw_ := IntWalk.i64_in ((ws j).tmod (off + 1)) (by omega); have qz_ : ¬ off + 1 = 0 := (by omega); exact opv rfl rfl (by simp [go_sem, a.e 8 (d 3 rfl), a.e 10 (d 5 rfl), qw_, qz_]) rfl,
  fun f s W c d h i k a => opm (a.v 11 (d 6 rfl)), trivial⟩ ?_
 intro f2 s2 W2 hB2 g2 hg2 z2
 have fB2 := hB2.f (hB1.f fB0)
 have k2_4 := kt hg2 4 (hB2.is 7)
 refine wp_ret ?_
 refine leave_one (N := 12) (.inr rfl) Tryz.results40 rfl k2_4 ?_
 exact ⟨rfl, fB2⟩
open Go.RowKit
def tailC : Nat → Code → Code
  | n + 1, .seq _ b => tailC n b
  | _, c => c
def bodyC (f : Func) : Code := f.body.getD .skip
open Go.RowKit
theorem range_block {W : World} {b : Nat} {cs : Array Value} {T : TypeId} {p : Nat × Nat} (hb : W.heap[b]? = some (.cells cs T p)) : W.rangeAt b 0 cs.toList := by
  intro j v hj
  rw [Nat.zero_add, Joins.cell_of_block hb j, ← hj, Array.getElem?_toList]
theorem run_load_block {P : Program} {W : World} {b : Nat} {cs : Array Value} {T : TypeId} {p : Nat × Nat} {ty : TypeId} {d : TypeDesc} (hb : W.heap[b]? = some (.cells cs T p)) (hu : P.underlying ty = some d) (hd : d.isRow = true) (hi : (P.info? ty).map (·.size) = some cs.size) :
    (Instr.loadAt ty (.pointer (some ⟨b, 0, none⟩))).run P W = .ok (.agg cs) W := by
  have h := run_loadAt_mid (P := P) W b 0 ty cs.toList d (range_block hb) hu hd (by rw [Array.length_toList]; exact hi)
  rw [Array.toArray_toList] at h
  exact h
theorem opl {P : Program} {ops : Array Oper} {Q : Exit → Act → World → Prop} {i : Nat} {a : Act} {W : World} {R : Value → World → Prop} {o : Oper} {ty : TypeId} {x : Operand} {b : Nat} {cs : Array Value} {T : TypeId} {p : Nat × Nat} {d : TypeDesc}
    (ho : ops[i]? = some o) (hg : o.guard = none) (hop : o.op = .load ty x) (hx : a.eval x = .pointer (some ⟨b, 0, none⟩)) (hb : W.heap[b]? = some (.cells cs T p)) (hu : P.underlying ty = some d) (hd : d.isRow = true) (hi : (P.info? ty).map (·.size) = some cs.size) (hR : R (.agg cs) W) : OpDo P ops Q i a W R := by
  refine opv ho hg ?_ hR
  unfold execOp
  simp only [hop, hx, Sem.run_bind, run_load_block hb hu hd hi, Result.andThen_ok, Sem.run_pure]
end Go.Proofs.YthnediamopehfaaGreat
