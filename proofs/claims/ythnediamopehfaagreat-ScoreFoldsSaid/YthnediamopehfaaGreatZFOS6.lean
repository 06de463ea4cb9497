/- Part of the proof: what the claim leans on. -/
import Derived.Test.YthnediamopehfaaGreatZFOL5
import Derived.Deep.MidRow
set_option linter.unusedSimpArgs false
set_option linter.unusedVariables false
namespace Go.Proofs.YthnediamopehfaaGreat
open Go.RowKit
/-- A number of a list of pairs. -/
def nthP (L : List (Int × Int)) (i : Nat) : Int × Int := L.getD i (0, 0)
/-- A sheet's numbers are bytes. -/
def ShIn (x : Sh) : Prop :=
  (0 ≤ x.x0 ∧ x.x0 ≤ 255) ∧ (0 ≤ x.x1 ∧ x.x1 ≤ 255) ∧ (0 ≤ x.x2 ∧ x.x2 ≤ 255) ∧ (0 ≤ x.x3 ∧ x.x3 ≤ 255) ∧ (0 ≤ x.xh ∧ x.xh ≤ 255) ∧ (0 ≤ x.y0 ∧ x.y0 ≤ 255) ∧ (0 ≤ x.y1 ∧ x.y1 ≤ 255) ∧ (0 ≤ x.y2 ∧ x.y2 ≤ 255) ∧ (0 ≤ x.y3 ∧ x.y3 ≤ 255) ∧
    (0 ≤ x.ca ∧ x.ca ≤ 255) ∧ (0 ≤ x.cb ∧ x.cb ≤ 255) ∧ (0 ≤ x.v0 ∧ x.v0 ≤ 255) ∧ (0 ≤ x.v1 ∧ x.v1 ≤ 255) ∧ (0 ≤ x.v2 ∧ x.v2 ≤ 255) ∧ (0 ≤ x.v3 ∧ x.v3 ≤ 255) ∧ (0 ≤ x.v4 ∧ x.v4 ≤ 255)
/-- A blank with four panels and two flaps at either end, as its numbers say. -/
theorem check_ok {tab p0 p1 p2 p3 hh t0 t1 u0 u1 sl : Int} {op : Bool} (gt : 0 ≤ tab ∧ tab ≤ 100) (gs : 0 ≤ sl ∧ sl ≤ 20) (gh : 1 ≤ hh ∧ hh ≤ 3000) (g0 : 1 ≤ p0 ∧ p0 ≤ 3000) (g1 : 1 ≤ p1 ∧ p1 ≤ 3000) (g2 : 1 ≤ p2 ∧ p2 ≤ 3000) (g3 : 1 ≤ p3 ∧ p3 ≤ 3000)
    (t0' : 0 ≤ t0 ∧ t0 ≤ 3000) (t1' : 0 ≤ t1 ∧ t1 ≤ 3000) (u0' : 0 ≤ u0 ∧ u0 ≤ 3000) (u1' : 0 ≤ u1 ∧ u1 ≤ 3000) (ho : op = true → t0 = 0 ∧ t1 = 0) : checkErr ⟨tab, [p0, p1, p2, p3], hh, [t0, t1], [u0, u1], sl, op⟩ = 0 := by
  unfold checkErr
  rw [if_neg, if_neg, if_neg]
  · simp only [Bool.and_eq_true, Bool.not_eq_true', not_and, Bool.not_eq_false, within]
    intro h
    obtain ⟨rfl, rfl⟩ := ho h
    decide
  · simp [numsOk, within, areLong]; omega
  · simp [lensOk]
theorem shBl_ok {x : Sh} (h : ShIn x) : checkErr (shBl x) = 0 := by
  obtain ⟨h0, h1, h2, h3, hh, a0, a1, a2, a3, -⟩ := h
  refine check_ok (by omega) (by omega) (by omega) (by omega) (by omega) (by omega) (by omega) ?_ ?_ (by omega) (by omega) fun e => by simp [e]
  · split <;> omega
  · split <;> omega
theorem twin_ok {b : Bl} (h : checkErr b = 0) : checkErr (twinB b) = 0 := by
  obtain ⟨⟨-, -, hl⟩, gt, gs, gh, ⟨gp0, gp1, gp2, gp3⟩, gt0, gt1, gu0, gu1⟩ := good_nums h
  obtain ⟨tab, p, hh, t, u, sl, op⟩ := b
  obtain ⟨u0, u1, rfl⟩ := list_two hl
  simp only [List.getD_cons_zero, List.getD_cons_succ] at gu0 gu1
  unfold twinB
  cases op with
  | true => exact check_ok gt gs gh gp0 gp1 gp0 gp1 (by omega) (by omega) gu0 gu1 fun _ => ⟨rfl, rfl⟩
  | false => exact check_ok gt gs gh gp0 gp1 gp0 gp1 gu0 gu1 gu0 gu1 nofun
theorem limS_ok {s : Sp} {least most : Int} (h : s.1 ≤ s.2) (hl : least ≤ most) : isSpan (limS s least most) least most = true := by
  unfold limS isSpan within
  simp only [List.any_cons, List.any_nil, Bool.or_false, Bool.and_eq_true, Bool.not_eq_true', Bool.or_eq_false_iff, decide_eq_false_iff_not, decide_eq_true_eq]
  omega
theorem around_le {lo hi wd : Int} (h : lo ≤ hi) (hw : 0 ≤ wd) : (aroundS lo hi wd).1 ≤ (aroundS lo hi wd).2 := by
  unfold aroundS dn upw; simp only; omega
theorem micros_le (b : Bl) {lo hi : Int} (h : lo ≤ hi) (k : Nat) : (microsOf b hi).getD k 0 ≤ (microsOf b lo).getD k 0 := by
  unfold microsOf
  match k with
  | 0 => simp only [List.getD_cons_zero]; omega
  | 1 => simp only [List.getD_cons_zero, List.getD_cons_succ]; omega
  | 2 => simp only [List.getD_cons_zero, List.getD_cons_succ]; omega
  | 3 => simp only [List.getD_cons_zero, List.getD_cons_succ]; omega
  | 4 => simp only [List.getD_cons_zero, List.getD_cons_succ]; split <;> omega
  | 5 => simp only [List.getD_cons_zero, List.getD_cons_succ]; omega
  | 6 => simp only [List.getD_cons_zero, List.getD_cons_succ]; omega
  | 7 => simp only [List.getD_cons_zero, List.getD_cons_succ]; omega
  | 8 => simp only [List.getD_cons_zero, List.getD_cons_succ]; omega
  | n + 9 => simp [List.getD_eq_getElem?_getD]
theorem wish_ok (x : Sh) (b : Bl) {lo hi : Int} (h : lo ≤ hi) : wishErr (wishOf x b lo hi) = 0 := by
  unfold wishErr wishOf
  simp only
  rw [limS_ok (around_le (micros_le b h 0) (by omega)) (by decide), limS_ok (around_le (micros_le b h 1) (by omega)) (by decide), limS_ok (around_le (micros_le b h 4) (by omega)) (by decide), limS_ok (around_le (micros_le b h 7) (by omega)) (by decide), limS_ok (around_le (micros_le b h 8) (by omega)) (by decide)]
  rfl
theorem wished_ok {b : Bl} {w : Wi} {lo hi : Int} (h1 : checkErr b = 0) (h2 : wishErr w = 0) (h3 : 1 ≤ lo) (h4 : lo ≤ hi) (h5 : hi ≤ 10000) : wishedErr b w [(lo, hi)] = 0 := by
  unfold wishedErr checkedErr
  rw [if_pos h1, if_pos h2]
  have : isSpan (lo, hi) 1 10000 = true := by
    unfold isSpan within
    simp only [List.any_cons, List.any_nil, Bool.or_false, Bool.and_eq_true, Bool.not_eq_true', Bool.or_eq_false_iff, decide_eq_false_iff_not, decide_eq_true_eq]
    omega
  simp [this]
theorem wished_nil {b : Bl} {w : Wi} (h1 : checkErr b = 0) (h2 : wishErr w = 0) : wishedErr b w [] = 0 := by
  unfold wishedErr checkedErr
  rw [if_pos h1, if_pos h2]; rfl
/-- A check that does not hold with all calipers: which caliper is told. -/
theorem bad_none {b : Bl} {w : Wi} {lo hi : Int} (h : lo ≤ hi) {k : Nat} : badOf b w (lo, hi) k = none ↔ (holdsOf b w k).1 ≤ lo ∧ hi ≤ (holdsOf b w k).2 := by
  unfold badOf
  simp only
  by_cases h1 : (holdsOf b w k).1 ≤ lo ∧ lo ≤ (holdsOf b w k).2
  · rw [if_pos h1]
    by_cases h2 : (holdsOf b w k).2 + 1 ≤ hi
    · rw [if_pos h2]; simp; omega
    · rw [if_neg h2]; simp; omega
  · rw [if_neg h1, if_pos h]; simp; omega
theorem mem_close {b : Bl} {w : Wi} {s : Sp} {x : Int × Int} : x ∈ closeL b w s ↔ ∃ k, k < 10 ∧ badOf b w s k = some x := by
  unfold closeL closeTo
  rw [List.mem_filterMap]
  simp [List.mem_range]
theorem close_nil {b : Bl} {w : Wi} {lo hi : Int} (h : lo ≤ hi) : closeL b w (lo, hi) = [] ↔ ∀ k, k < 10 → (holdsOf b w k).1 ≤ lo ∧ hi ≤ (holdsOf b w k).2 := by
  rw [List.eq_nil_iff_forall_not_mem]
  constructor
  · intro h1 k hk
    refine (bad_none h).1 ?_
    cases e : badOf b w (lo, hi) k with
    | none => rfl
    | some x => exact absurd (mem_close.2 ⟨k, hk, e⟩) (h1 x)
  · intro h1 x hx
    obtain ⟨k, hk, e⟩ := mem_close.1 hx
    rw [(bad_none h).2 (h1 k hk)] at e
    cases e
theorem all_span {b : Bl} {w : Wi} {lo hi : Int} (h1 : 1 ≤ lo) (h2 : hi ≤ 10000) : ∀ n, (∀ k, k < n → (holdsOf b w k).1 ≤ lo ∧ hi ≤ (holdsOf b w k).2) ↔ (allTo b w n).1 ≤ lo ∧ hi ≤ (allTo b w n).2
  | 0 => by simp [allTo, every]; omega
  | n + 1 => by
    have ih := all_span (b := b) (w := w) h1 h2 n
    simp only [allTo, both]
    constructor
    · intro h
      have hn := h n (Nat.lt_succ_self n)
      have := ih.1 fun k hk => h k (Nat.lt_succ_of_lt hk)
      omega
    · intro h k hk
      rcases Nat.lt_or_ge k n with hlt | hge
      · exact ih.2 (by omega) k hlt
      · obtain rfl : k = n := by omega
        omega
theorem close_all {b : Bl} {w : Wi} {lo hi : Int} (h1 : 1 ≤ lo) (h : lo ≤ hi) (h2 : hi ≤ 10000) : closeL b w (lo, hi) = [] ↔ (allTo b w 10).1 ≤ lo ∧ hi ≤ (allTo b w 10).2 :=
  (close_nil h).trans (all_span h1 h2 10)
theorem all_in (b : Bl) (w : Wi) : ∀ n, 1 ≤ (allTo b w n).1 ∧ (allTo b w n).2 ≤ 10000
  | 0 => by simp [allTo, every]
  | n + 1 => by
    have := all_in b w n
    simp only [allTo, both]; omega
/-- No check is named just if the span lies in Calipers. -/
theorem close_cal {b : Bl} {w : Wi} {lo hi : Int} (hc : checkErr b = 0) (hw : wishErr w = 0) (h1 : 1 ≤ lo) (h : lo ≤ hi) (h2 : hi ≤ 10000) : closeL b w (lo, hi) = [] ↔ calErr b w = 0 ∧ (calOf b w).1 ≤ lo ∧ hi ≤ (calOf b w).2 := by
  rw [close_all h1 h h2]
  have hn := wished_nil hc hw
  unfold calOf calErr
  rw [if_pos hn]
  constructor
  · intro h3
    rw [if_neg (by omega), if_pos rfl]; exact ⟨rfl, h3⟩
  · rintro ⟨h3, h4⟩
    rw [h3, if_pos rfl] at h4
    exact h4
theorem cal_in {b : Bl} {w : Wi} (h : calErr b w = 0) : 1 ≤ (calOf b w).1 ∧ (calOf b w).2 ≤ 10000 ∧ (wishedErr b w [] = 0 → (calOf b w).1 ≤ (calOf b w).2) := by
  have := all_in b w 10
  unfold calOf
  rw [if_pos h]
  refine ⟨this.1, this.2, fun hn => ?_⟩
  unfold calErr at h
  rw [if_pos hn] at h
  split at h
  · cases h
  · omega
theorem shCal_in {x : Sh} (h : ShIn x) : 1 ≤ (shCal x).1 ∧ (shCal x).1 ≤ (shCal x).2 ∧ (shCal x).2 ≤ 10000 := by
  obtain ⟨-, -, -, -, -, -, -, -, -, a, b, -⟩ := h
  unfold shCal; simp only; omega
end Go.Proofs.YthnediamopehfaaGreat
namespace Go.Proofs.YthnediamopehfaaGreat
open Go.RowKit
theorem osure {P : Program} {ops : Array Oper} {Q : Exit → Act → World → Prop} {i j : Nat} {want : Bool} {a : Act} {W : World} {r : Value → World → Prop} {o : Oper} (ho : ops[i]? = some o) (hg : o.guard = some (j, want)) (hy : yielded ops a.tmps j = some want)
    (h : ∀ K : Act → World → Prop, (∀ v W', Below W.heap.size W W' → r v W' → K (a.put o.dst v) W') → o.wp P a W K Q) : OpDo P ops Q i a W r := by
  intro K hK
  unfold wpOp
  simp only [ho, Region.wanted, hg, hy]
  rw [ho] at hK
  rw [if_pos (by simp)]
  exact .inl (h K hK)
end Go.Proofs.YthnediamopehfaaGreat
namespace Go.Proofs.YthnediamopehfaaGreat
open Go.RowKit
set_option maxRecDepth 100000 in
set_option maxHeartbeats 2000000 in
theorem copy_own (a1 a2 a3 : Option Addr) (c1 c2 c3 : Nat) (tab p0 p1 p2 p3 hh t0 t1 u0 u1 sl : Int) (op : Bool) (w : World) (h1 : Ii w a1 4 c1 [p0, p1, p2, p3]) (h2 : Ii w a2 2 c2 [t0, t1]) (h3 : Ii w a3 2 c3 [u0, u1]) :
  Calls Tryz.prog 48 #[.agg #[.int .i64 tab, .slice (a1) (4) (c1), .int .i64 hh, .slice (a2) (2) (c2), .slice (a3) (2) (c3), .int .i64 sl, .bool op]] w (OwBlkP ⟨tab, [p0, p1, p2, p3], hh, [t0, t1], [u0, u1], sl, op⟩ w) := by
 refine calls_fr Tryz.func48 Tryz.ntmps48 rfl rfl fun g hg => ?_
 have k0 : g 0 = .agg #[.int .i64 tab, .slice (a1) (4) (c1), .int .i64 hh, .slice (a2) (2) (c2), .slice (a3) (2) (c3), .int .i64 sl, .bool op] := hg 0
 clear hg
 have fB0 : Below w.heap.size w w := Below.refl _ _
 refine wp_seq_k fun K1 hK1 => ?_
 refine region_dk 2 [(1, 0), (2, 1)] [[], []] (rel [bx 0 #[.int .i64 tab, .slice (a1) (4) (c1), .int .i64 hh, .slice (a2) (2) (c2), .slice (a3) (2) (c3), .int .i64 sl, .bool op] 24,
   bx 1 #[.int .i64 0, .slice (none) (0) (0), .int .i64 0, .slice (none) (0) (0), .slice (none) (0) (0), .int .i64 0, .bool false] 24])
  ⟨bx_k, bx_k, trivial⟩
  ⟨fun f s W c d i j l a => opb rfl rfl (by simp [go_sem, a.e 0 k0]),
  fun f s W c d i j l a => opb rfl rfl (by simp [go_sem]), trivial⟩ ?_
 intro f1 s1 W1 hB1 g1 hg1
 have fB1 := hB1.f fB0
 have z1 := hB1.below.size
 obtain ⟨r1_0, br1_0⟩ := hB1.is 0
 have lr1_0 := hB1.lr 0 br1_0
 obtain ⟨r1_1, br1_1⟩ := hB1.is 1
 have lr1_1 := hB1.lr 1 br1_1
 have ne1_0_1 := hB1.nb 0 1
 refine hK1 _ _ ?_
 have k1_1 := kt hg1 1 r1_0
 have k1_2 := kt hg1 2 r1_1
 refine wp_seq_k fun K2 hK2 => ?_
 refine region_dk 13 [(3, 0), (4, 1), (5, 2), (6, 3), (7, 4), (8, 5), (9, 6), (10, 7), (11, 8), (12, 9), (13, 10), (14, 11), (15, 12), (16, 14), (17, 16)] [[], [], [1], [0, 1, 2], [], [], [5], [0, 1, 2, 3, 4, 5, 6], [], [], [9], [0, 1, 2, 3, 4, 5, 6, 7, 8, 9, 10], [0, 1, 2, 3, 5, 6, 9, 10], [0, 1, 2, 3, 4, 5, 6, 7, 8, 9, 10, 11, 12], [0, 1, 2, 3, 4, 5, 6, 7, 8, 9, 10, 11, 12, 13], [0, 1, 2, 3, 4, 5, 6, 7, 8, 9, 10, 11, 12, 13, 14], [0, 1, 2, 3, 4, 5, 6, 7, 8, 9, 10, 11, 12, 13, 14, 15], [0, 1, 2, 3, 4, 5, 6, 7, 8, 9, 10, 11, 12, 13, 14, 15, 16]] (rel [row 0 0 #[] 3,
   is (.pointer (some ⟨(s1 0), 1, none⟩)),
   is (.slice (a1) (4) (c1)),
   fun v s W => OwI (s 3) ([p0, p1, p2, p3]) 4 v W,
   row 4 0 #[] 3,
   is (.pointer (some ⟨(s1 0), 3, none⟩)),
   is (.slice (a2) (2) (c2)),
   fun v s W => OwI (s 7) ([t0, t1]) 2 v W,
   row 8 0 #[] 3,
   is (.pointer (some ⟨(s1 0), 4, none⟩)),
   is (.slice (a3) (2) (c3)),
   fun v s W => OwI (s 11) ([u0, u1]) 2 v W,
   is (.pointer (some ⟨(s1 0), 1, none⟩))])
  ⟨row_k, is_k, is_k, ⟨fun v k W W' hb h => h.below hb, fun v s s' W e h => by have h' : OwI (s 3) ([p0, p1, p2, p3]) 4 v W := h; show OwI (s' 3) ([p0, p1, p2, p3]) 4 v W; rw [← e 3 (by simp)]; exact h'⟩, row_k, is_k, is_k, ⟨fun v k W W' hb h => h.below hb, fun v s s' W e h => by have h' : OwI (s 7) ([t0, t1]) 2 v W := h; show OwI (s' 7) ([t0, t1]) 2 v W; rw [← e 7 (by simp)]; exact h'⟩, row_k, is_k, is_k, ⟨fun v k W W' hb h => h.below hb, fun v s s' W e h => by have h' : OwI (s 11) ([u0, u1]) 2 v W := h; show OwI (s' 11) ([u0, u1]) 2 v W; rw [← e 11 (by simp)]; exact h'⟩, is_k, trivial⟩
  ⟨fun f s W c d i j l a => opr rfl rfl (by simp [go_sem]),
  fun f s W c d i j l a => opv rfl rfl (by simp [go_sem, a.e 1 k1_1]) rfl,
  fun f s W c d i j l a => opv rfl rfl (by simp [go_sem, a.e 4 (d 1 rfl), cb br1_0 c 1]) rfl,
  fun f s W c d i j l a => by have m := below_trans fB1 c; obtain ⟨v_, W_, r_, b_, i_⟩ := cloneO_run 22 W (s 0) (a1) (c1) ([p0, p1, p2, p3]) 4 ((h1.below m (Nat.le_refl _))) ((by decide)) ((by decide)) (d 0 rfl).2; exact opDo_value rfl rfl (run_appendOp (a.v 3 (d 0 rfl).1) (a.v 5 (d 2 rfl)) r_) b_ (show OwI (upd s 3 W.heap.size 3) ([p0, p1, p2, p3]) 4 v_ W_ from by rw [upd_at]; exact i_),
  fun f s W c d i j l a => opr rfl rfl (by simp [go_sem]),
  fun f s W c d i j l a => opv rfl rfl (by simp [go_sem, a.e 1 k1_1]) rfl,
  fun f s W c d i j l a => opv rfl rfl (by simp [go_sem, a.e 8 (d 5 rfl), cb br1_0 c 3]) rfl,
  fun f s W c d i j l a => by have m := below_trans fB1 c; obtain ⟨v_, W_, r_, b_, i_⟩ := cloneO_run 22 W (s 4) (a2) (c2) ([t0, t1]) 2 ((h2.below m (Nat.le_refl _))) ((by decide)) ((by decide)) (d 4 rfl).2; exact opDo_value rfl rfl (run_appendOp (a.v 7 (d 4 rfl).1) (a.v 9 (d 6 rfl)) r_) b_ (show OwI (upd s 7 W.heap.size 7) ([t0, t1]) 2 v_ W_ from by rw [upd_at]; exact i_),
  fun f s W c d i j l a => opr rfl rfl (by simp [go_sem]),
  fun f s W c d i j l a => opv rfl rfl (by simp [go_sem, a.e 1 k1_1]) rfl,
  fun f s W c d i j l a => opv rfl rfl (by simp [go_sem, a.e 12 (d 9 rfl), cb br1_0 c 4]) rfl,
  fun f s W c d i j l a => by have m := below_trans fB1 c; obtain ⟨v_, W_, r_, b_, i_⟩ := cloneO_run 22 W (s 8) (a3) (c3) ([u0, u1]) 2 ((h3.below m (Nat.le_refl _))) ((by decide)) ((by decide)) (d 8 rfl).2; exact opDo_value rfl rfl (run_appendOp (a.v 11 (d 8 rfl).1) (a.v 13 (d 10 rfl)) r_) b_ (show OwI (upd s 11 W.heap.size 11) ([u0, u1]) 2 v_ W_ from by rw [upd_at]; exact i_),
  fun f s W c d i j l a => opv rfl rfl (by simp [go_sem, a.e 1 k1_1]) rfl, trivial⟩ ?_
 intro f2 s2 W2 hB2 g2 hg2
 have fB2 := hB2.f fB1
 have z2 := hB2.below.size
 have b2_0 := hB2.b br1_0
 have b2_1 := hB2.b br1_1
 obtain ⟨r2_0, br2_0⟩ := hB2.is 0
 have lr2_0 := hB2.lr 0 br2_0
 obtain ⟨g1', c2', r2_3, q3'⟩ := hB2.is 3
 have la2_3 := hB2.from' 3 (by decide)
 have lo2_3_o := q3'.lim
 have q4' := q3'.low (B' := w.heap.size) (Nat.le_trans fB1.size (la2_3))
 obtain ⟨r2_4, br2_4⟩ := hB2.is 4
 have lr2_4 := hB2.lr 4 br2_4
 obtain ⟨g5', c6', r2_7, q7'⟩ := hB2.is 7
 have la2_7 := hB2.from' 7 (by decide)
 have lo2_7_o := q7'.lim
 have q8' := q7'.low (B' := w.heap.size) (Nat.le_trans fB1.size (la2_7))
 obtain ⟨r2_8, br2_8⟩ := hB2.is 8
 have lr2_8 := hB2.lr 8 br2_8
 obtain ⟨g9', c10', r2_11, q11'⟩ := hB2.is 11
 have la2_11 := hB2.from' 11 (by decide)
 have lo2_11_o := q11'.lim
 have q12' := q11'.low (B' := w.heap.size) (Nat.le_trans fB1.size (la2_11))
 have oo2_3_o_0 := hB2.off 3 0 (by decide) (by decide) (by decide) lo2_3_o.1 (fun W h => OwI.lt h r2_3) (fun _ _ _ h => lt_of_blk h.2)
 have oo2_3_o_4 := hB2.off 3 4 (by decide) (by decide) (by decide) lo2_3_o.1 (fun W h => OwI.lt h r2_3) (fun _ _ _ h => lt_of_blk h.2)
 have oo2_3_o_8 := hB2.off 3 8 (by decide) (by decide) (by decide) lo2_3_o.1 (fun W h => OwI.lt h r2_3) (fun _ _ _ h => lt_of_blk h.2)
 have oo2_7_o_0 := hB2.off 7 0 (by decide) (by decide) (by decide) lo2_7_o.1 (fun W h => OwI.lt h r2_7) (fun _ _ _ h => lt_of_blk h.2)
 have oo2_7_o_4 := hB2.off 7 4 (by decide) (by decide) (by decide) lo2_7_o.1 (fun W h => OwI.lt h r2_7) (fun _ _ _ h => lt_of_blk h.2)
 have oo2_7_o_8 := hB2.off 7 8 (by decide) (by decide) (by decide) lo2_7_o.1 (fun W h => OwI.lt h r2_7) (fun _ _ _ h => lt_of_blk h.2)
 have ow2_7_o_3_o := hB2.two 7 3 (by decide) (by decide) (by decide) lo2_7_o.1 lo2_3_o.1 (fun W h => OwI.lt h r2_7) (fun W h => OwI.lt h r2_3)
 have oo2_11_o_0 := hB2.off 11 0 (by decide) (by decide) (by decide) lo2_11_o.1 (fun W h => OwI.lt h r2_11) (fun _ _ _ h => lt_of_blk h.2)
 have oo2_11_o_4 := hB2.off 11 4 (by decide) (by decide) (by decide) lo2_11_o.1 (fun W h => OwI.lt h r2_11) (fun _ _ _ h => lt_of_blk h.2)
 have oo2_11_o_8 := hB2.off 11 8 (by decide) (by decide) (by decide) lo2_11_o.1 (fun W h => OwI.lt h r2_11) (fun _ _ _ h => lt_of_blk h.2)
 have ow2_11_o_3_o := hB2.two 11 3 (by decide) (by decide) (by decide) lo2_11_o.1 lo2_3_o.1 (fun W h => OwI.lt h r2_11) (fun W h => OwI.lt h r2_3)
 have ow2_11_o_7_o := hB2.two 11 7 (by decide) (by decide) (by decide) lo2_11_o.1 lo2_7_o.1 (fun W h => OwI.lt h r2_11) (fun W h => OwI.lt h r2_7)
 have ne2_0_4 := hB2.nb 0 4
 have ne2_0_8 := hB2.nb 0 8
 have ne2_4_8 := hB2.nb 4 8
 have k2_1 := kt hg2 1 k1_1
 have k2_2 := kt hg2 2 k1_2
 have k2_6 := kt hg2 6 r2_3
 have k2_10 := kt hg2 10 r2_7
 have k2_14 := kt hg2 14 r2_11
 have k2_15 := kt hg2 15 (hB2.is 12)
 obtain ⟨W3, hW3⟩ : ∃ W', W' = W2.setRow (s1 0) #[.int .i64 tab, .slice (some ⟨g1', 0, none⟩) (4) (c2'), .int .i64 hh, .slice (a2) (2) (c2), .slice (a3) (2) (c3), .int .i64 sl, .bool op] := ⟨_, rfl⟩
 refine tail_skip (o := _) rfl ⟨rfl, rfl⟩ (run_seg hW3 (fr_ev k2_15) (fr_ev k2_6) b2_0 rfl rfl rfl rfl) ?_
 obtain ⟨fB3, nb3, ot3, z3⟩ := seg_facts hW3 fB2 b2_0 (by omega)
 clear hW3
 have b3_1 := ot3 _ _ (by omega) b2_1
 have b3_2 := ot3 _ _ (by omega) br2_0
 have b3_3 := ot3 _ _ (by omega) br2_4
 have b3_4 := ot3 _ _ (by omega) br2_8
 have q13' := q4'.other ot3 (by omega) z3
 have q14' := q8'.other ot3 (by omega) z3
 have q15' := q12'.other ot3 (by omega) z3
 refine tail_value (o := _) rfl rfl rfl (v := .pointer (some ⟨(s1 0), 3, none⟩)) (by simp [go_sem, frv 19 k2_1]) ?_
 generalize hg4 : upd g2 16 (.pointer (some ⟨(s1 0), 3, none⟩)) = g4
 have k4_1 := ku hg4 1 k2_1
 have k4_2 := ku hg4 2 k2_2
 have k4_10 := ku hg4 10 k2_10
 have k4_14 := ku hg4 14 k2_14
 have k4_16 := kt hg4 16 (upd_same _ _ _)
 obtain ⟨W5, hW5⟩ : ∃ W', W' = W3.setRow (s1 0) #[.int .i64 tab, .slice (some ⟨g1', 0, none⟩) (4) (c2'), .int .i64 hh, .slice (some ⟨g5', 0, none⟩) (2) (c6'), .slice (a3) (2) (c3), .int .i64 sl, .bool op] := ⟨_, rfl⟩
 refine tail_skip (o := _) rfl ⟨rfl, rfl⟩ (run_seg hW5 (fr_ev k4_16) (fr_ev k4_10) nb3 rfl rfl rfl rfl) ?_
 obtain ⟨fB5, nb5, ot5, z5⟩ := seg_facts hW5 fB3 nb3 (by omega)
 clear hW5
 have b5_1 := ot5 _ _ (by omega) b3_1
 have b5_2 := ot5 _ _ (by omega) b3_2
 have b5_3 := ot5 _ _ (by omega) b3_3
 have b5_4 := ot5 _ _ (by omega) b3_4
 have q16' := q13'.other ot5 (by omega) z5
 have q17' := q14'.other ot5 (by omega) z5
 have q18' := q15'.other ot5 (by omega) z5
 refine tail_value (o := _) rfl rfl rfl (v := .pointer (some ⟨(s1 0), 4, none⟩)) (by simp [go_sem, frv 19 k4_1]) ?_
 generalize hg6 : upd g4 17 (.pointer (some ⟨(s1 0), 4, none⟩)) = g6
 have k6_1 := ku hg6 1 k4_1
 have k6_2 := ku hg6 2 k4_2
 have k6_14 := ku hg6 14 k4_14
 have k6_17 := kt hg6 17 (upd_same _ _ _)
 obtain ⟨W7, hW7⟩ : ∃ W', W' = W5.setRow (s1 0) #[.int .i64 tab, .slice (some ⟨g1', 0, none⟩) (4) (c2'), .int .i64 hh, .slice (some ⟨g5', 0, none⟩) (2) (c6'), .slice (some ⟨g9', 0, none⟩) (2) (c10'), .int .i64 sl, .bool op] := ⟨_, rfl⟩
 refine tail_skip (o := _) rfl ⟨rfl, rfl⟩ (run_seg hW7 (fr_ev k6_17) (fr_ev k6_14) nb5 rfl rfl rfl rfl) ?_
 obtain ⟨fB7, nb7, ot7, z7⟩ := seg_facts hW7 fB5 nb5 (by omega)
 clear hW7
 have b7_1 := ot7 _ _ (by omega) b5_1
 have b7_2 := ot7 _ _ (by omega) b5_2
 have b7_3 := ot7 _ _ (by omega) b5_3
 have b7_4 := ot7 _ _ (by omega) b5_4
 have q19' := q16'.other ot7 (by omega) z7
 have q20' := q17'.other ot7 (by omega) z7
 have q21' := q18'.other ot7 (by omega) z7
 refine wpOps_end ?_
 refine hK2 _ _ ?_
 refine wp_seq_k fun K3 hK3 => ?_
 refine region_dk 1 [(18, 0)] [[], [0]] (rel [is (.agg #[.int .i64 tab, .slice (some ⟨g1', 0, none⟩) (4) (c2'), .int .i64 hh, .slice (some ⟨g5', 0, none⟩) (2) (c6'), .slice (some ⟨g9', 0, none⟩) (2) (c10'), .int .i64 sl, .bool op])])
  ⟨is_k, trivial⟩
  ⟨fun f s W c d i j l a => opv rfl rfl (by simp [go_sem, a.e 1 k6_1, cb nb7 c 0, cb nb7 c 1, cb nb7 c 2, cb nb7 c 3, cb nb7 c 4, cb nb7 c 5, cb nb7 c 6]) rfl, trivial⟩ ?_
 intro f8 s8 W8 hB8 g8 hg8
 have fB8 := hB8.f fB7
 have z8 := hB8.below.size
 have b8_0 := hB8.b nb7
 have b8_1 := hB8.b b7_1
 have b8_2 := hB8.b b7_2
 have b8_3 := hB8.b b7_3
 have b8_4 := hB8.b b7_4
 have q22' := (q19'.below hB8.below)
 have q23' := (q20'.below hB8.below)
 have q24' := (q21'.below hB8.below)
 have k8_2 := kt hg8 2 k6_2
 have k8_18 := kt hg8 18 (hB8.is 0)
 obtain ⟨W9, hW9⟩ : ∃ W', W' = W8.setRow (s1 1) #[.int .i64 tab, .slice (some ⟨g1', 0, none⟩) (4) (c2'), .int .i64 hh, .slice (some ⟨g5', 0, none⟩) (2) (c6'), .slice (some ⟨g9', 0, none⟩) (2) (c10'), .int .i64 sl, .bool op] := ⟨_, rfl⟩
 refine tail_skip (o := _) rfl ⟨rfl, rfl⟩ (run_seg hW9 (fr_ev k8_2) (fr_ev k8_18) b8_1 rfl rfl rfl rfl) ?_
 obtain ⟨fB9, nb9, ot9, z9⟩ := seg_facts hW9 fB8 b8_1 (by omega)
 clear hW9
 have b9_0 := ot9 _ _ (by omega) b8_0
 have b9_2 := ot9 _ _ (by omega) b8_2
 have b9_3 := ot9 _ _ (by omega) b8_3
 have b9_4 := ot9 _ _ (by omega) b8_4
 have q25' := q22'.other ot9 (by omega) z9
 have q26' := q23'.other ot9 (by omega) z9
 have q27' := q24'.other ot9 (by omega) z9
 refine wpOps_end ?_
 refine hK3 _ _ ?_
 refine wp_ret ?_
 refine leave_gen (v := .agg #[.int .i64 tab, .slice (some ⟨g1', 0, none⟩) (4) (c2'), .int .i64 hh, .slice (some ⟨g5', 0, none⟩) (2) (c6'), .slice (some ⟨g9', 0, none⟩) (2) (c10'), .int .i64 sl, .bool op]) (.inr rfl) (by simp [results, Tryz.results48, go_sem, frv 19 k8_2, cl nb9 0, cl nb9 1, cl nb9 2, cl nb9 3, cl nb9 4, cl nb9 5, cl nb9 6]) ?_
 exact ⟨_, rfl, ⟨_, _, _, _, _, _, rfl, q25', q26', q27', by omega, by omega, by omega⟩, fB9⟩
set_option maxRecDepth 100000 in
set_option maxHeartbeats 2000000 in
theorem own_own (a1 a2 a3 : Option Addr) (c1 c2 c3 : Nat) (tab p0 p1 p2 p3 hh t0 t1 u0 u1 sl : Int) (op : Bool) (w : World) (h1 : Ii w a1 4 c1 [p0, p1, p2, p3]) (h2 : Ii w a2 2 c2 [t0, t1]) (h3 : Ii w a3 2 c3 [u0, u1]) :
  Calls Tryz.prog 13 #[.agg #[.int .i64 tab, .slice (a1) (4) (c1), .int .i64 hh, .slice (a2) (2) (c2), .slice (a3) (2) (c3), .int .i64 sl, .bool op]] w (OwBlkP ⟨tab, [p0, p1, p2, p3], hh, [t0, t1], [u0, u1], sl, op⟩ w) := by
 refine calls_fr Tryz.func13 Tryz.ntmps13 rfl rfl fun g hg => ?_
 have k0 : g 0 = .agg #[.int .i64 tab, .slice (a1) (4) (c1), .int .i64 hh, .slice (a2) (2) (c2), .slice (a3) (2) (c3), .int .i64 sl, .bool op] := hg 0
 clear hg
 have fB0 : Below w.heap.size w w := Below.refl _ _
 refine wp_seq_k fun K1 hK1 => ?_
 refine region_dk 2 [(1, 0), (2, 1)] [[], []] (rel [bx 0 #[.int .i64 tab, .slice (a1) (4) (c1), .int .i64 hh, .slice (a2) (2) (c2), .slice (a3) (2) (c3), .int .i64 sl, .bool op] 24,
   bx 1 #[.int .i64 0, .slice (none) (0) (0), .int .i64 0, .slice (none) (0) (0), .slice (none) (0) (0), .int .i64 0, .bool false] 24])
  ⟨bx_k, bx_k, trivial⟩
  ⟨fun f s W c d i j l a => opb rfl rfl (by simp [go_sem, a.e 0 k0]),
  fun f s W c d i j l a => opb rfl rfl (by simp [go_sem]), trivial⟩ ?_
 intro f1 s1 W1 hB1 g1 hg1
 have fB1 := hB1.f fB0
 have z1 := hB1.below.size
 obtain ⟨r1_0, br1_0⟩ := hB1.is 0
 have lr1_0 := hB1.lr 0 br1_0
 obtain ⟨r1_1, br1_1⟩ := hB1.is 1
 have lr1_1 := hB1.lr 1 br1_1
 have ne1_0_1 := hB1.nb 0 1
 refine hK1 _ _ ?_
 have k1_1 := kt hg1 1 r1_0
 have k1_2 := kt hg1 2 r1_1
 refine wp_seq_k fun K2 hK2 => ?_
 refine region_dk 2 [(3, 0), (4, 1)] [[], [0], [0, 1]] (rel [is (.agg #[.int .i64 tab, .slice (a1) (4) (c1), .int .i64 hh, .slice (a2) (2) (c2), .slice (a3) (2) (c3), .int .i64 sl, .bool op]),
   fun v s W => OwBlk (s 1) (⟨tab, [p0, p1, p2, p3], hh, [t0, t1], [u0, u1], sl, op⟩) v W])
  ⟨is_k, ⟨fun v k W W' hb h => h.below hb, fun v s s' W e h => by have h' : OwBlk (s 1) (⟨tab, [p0, p1, p2, p3], hh, [t0, t1], [u0, u1], sl, op⟩) v W := h; show OwBlk (s' 1) (⟨tab, [p0, p1, p2, p3], hh, [t0, t1], [u0, u1], sl, op⟩) v W; rw [← e 1 (by simp)]; exact h'⟩, trivial⟩
  ⟨fun f s W c d i j l a => opv rfl rfl (by simp [go_sem, a.e 1 k1_1, cb br1_0 c 0, cb br1_0 c 1, cb br1_0 c 2, cb br1_0 c 3, cb br1_0 c 4, cb br1_0 c 5, cb br1_0 c 6]) rfl,
  fun f s W c d i j l a => by have m := below_trans fB1 c; exact opDo_call rfl rfl (by simp [go_sem, a.e 3 (d 0 rfl)]) (copy_own a1 a2 a3 c1 c2 c3 tab p0 p1 p2 p3 hh t0 t1 u0 u1 sl op W (h1.below m (Nat.le_refl _)) (h2.below m (Nat.le_refl _)) (h3.below m (Nat.le_refl _))) (fun e W' h => by obtain ⟨v, e1, h1, h2⟩ := h; exact ⟨v, e1, h2, (show OwBlk (upd s 1 W.heap.size 1) (⟨tab, [p0, p1, p2, p3], hh, [t0, t1], [u0, u1], sl, op⟩) v W' from by rw [upd_at]; exact h1)⟩), trivial⟩ ?_
 intro f2 s2 W2 hB2 g2 hg2
 have fB2 := hB2.f fB1
 have z2 := hB2.below.size
 have b2_0 := hB2.b br1_0
 have b2_1 := hB2.b br1_1
 obtain ⟨g28', c31', g29', c32', g30', c33', r2_1, q34', q35', q36', q37', q38', q39'⟩ := hB2.is 1
 have la2_1 := hB2.from' 1 (by decide)
 have lo2_1_o0 := q34'.lim
 have q40' := q34'.low (B' := w.heap.size) (Nat.le_trans fB1.size (la2_1))
 have lo2_1_o1 := q35'.lim
 have q41' := q35'.low (B' := w.heap.size) (Nat.le_trans fB1.size (la2_1))
 have lo2_1_o2 := q36'.lim
 have q42' := q36'.low (B' := w.heap.size) (Nat.le_trans fB1.size (la2_1))
 have k2_2 := kt hg2 2 k1_2
 have k2_4 := kt hg2 4 r2_1
 obtain ⟨W3, hW3⟩ : ∃ W', W' = W2.setRow (s1 1) #[.int .i64 tab, .slice (some ⟨g28', 0, none⟩) (4) (c31'), .int .i64 hh, .slice (some ⟨g29', 0, none⟩) (2) (c32'), .slice (some ⟨g30', 0, none⟩) (2) (c33'), .int .i64 sl, .bool op] := ⟨_, rfl⟩
 refine tail_skip (o := _) rfl ⟨rfl, rfl⟩ (run_seg hW3 (fr_ev k2_2) (fr_ev k2_4) b2_1 rfl rfl rfl rfl) ?_
 obtain ⟨fB3, nb3, ot3, z3⟩ := seg_facts hW3 fB2 b2_1 (by omega)
 clear hW3
 have b3_0 := ot3 _ _ (by omega) b2_0
 have q43' := q40'.other ot3 (by omega) z3
 have q44' := q41'.other ot3 (by omega) z3
 have q45' := q42'.other ot3 (by omega) z3
 refine wpOps_end ?_
 refine hK2 _ _ ?_
 refine wp_ret ?_
 refine leave_gen (v := .agg #[.int .i64 tab, .slice (some ⟨g28', 0, none⟩) (4) (c31'), .int .i64 hh, .slice (some ⟨g29', 0, none⟩) (2) (c32'), .slice (some ⟨g30', 0, none⟩) (2) (c33'), .int .i64 sl, .bool op]) (.inr rfl) (by simp [results, Tryz.results13, go_sem, frv 5 k2_2, cl nb3 0, cl nb3 1, cl nb3 2, cl nb3 3, cl nb3 4, cl nb3 5, cl nb3 6]) ?_
 exact ⟨_, rfl, ⟨_, _, _, _, _, _, rfl, q43', q44', q45', by omega, by omega, by omega⟩, fB3⟩
end Go.Proofs.YthnediamopehfaaGreat
namespace Go.Proofs.YthnediamopehfaaGreat
open Go.RowKit
/-- Nothing is changed but new blocks of the kind T; what G says of such a block's content stays said. -/
structure LeT (B : Nat) (T : TypeId) (G : Array Value → World → Prop) (a b : World) : Prop where
  os : b.os = a.os
  tape : b.tape = a.tape
  output : b.output = a.output
  size : a.heap.size ≤ b.heap.size
  block : ∀ k x, a.heap[k]? = some x → (k < B ∨ ∀ cs, x ≠ .cells cs T (0, 0)) → b.heap[k]? = some x
  kind : ∀ k cs, B ≤ k → a.heap[k]? = some (.cells cs T (0, 0)) → ∃ cs', b.heap[k]? = some (.cells cs' T (0, 0)) ∧ cs'.size = cs.size ∧ (G cs a → G cs' b)
/-- What G says stays while only new memory is written. -/
def GoodB (G : Array Value → World → Prop) : Prop := ∀ cs a b, Below a.heap.size a b → G cs a → G cs b
section
variable {B : Nat} {T : TypeId} {G : Array Value → World → Prop}
theorem LeT.refl (a : World) : LeT B T G a a := ⟨rfl, rfl, rfl, Nat.le_refl _, fun _ _ h _ => h, fun _ cs _ h => ⟨cs, h, rfl, fun g => g⟩⟩
theorem LeT.trans (a b c : World) (h : LeT B T G a b) (k : LeT B T G b c) : LeT B T G a c :=
  ⟨k.os.trans h.os, k.tape.trans h.tape, k.output.trans h.output, Nat.le_trans h.size k.size, fun i x hx hn => k.block i x (h.block i x hx hn) hn, fun i cs hi hx => by
    obtain ⟨cs1, h1, h2, h3⟩ := h.kind i cs hi hx
    obtain ⟨cs2, h4, h5, h6⟩ := k.kind i cs1 hi h1
    exact ⟨cs2, h4, h5.trans h2, fun g => h6 (h3 g)⟩⟩
theorem LeT.of_below (hG : GoodB G) (a b : World) (h : Below a.heap.size a b) : LeT B T G a b :=
  ⟨h.os, h.tape, h.output, h.size, fun k x hx _ => blk_below hx h, fun k cs _ hx => ⟨cs, blk_below hx h, rfl, fun g => hG cs a b h g⟩⟩
theorem LeT.drew (hG : GoodB G) (a : World) : LeT B T G a a.drew := LeT.of_below hG _ _ (Below.refl _ _).drew
theorem LeT.below {a b : World} (h : LeT B T G a b) (hB : B ≤ a.heap.size) : Below B a b :=
  ⟨h.os, h.tape, h.output, h.size, fun k hk => by
    have hx : a.heap[k]? = some a.heap[k] := Array.getElem?_eq_getElem (by omega)
    rw [hx]; exact h.block k _ hx (.inl hk)⟩
/-- A box of the kind T that is made. -/
def boxT (B : Nat) (T : TypeId) (n i : Nat) : Rl := fun v s W => v = .pointer (some ⟨(s i), 0, none⟩) ∧ B ≤ s i ∧ ∃ cs, W.heap[s i]? = some (.cells cs T (0, 0)) ∧ cs.size = n
theorem boxT_k {ds : List (List Nat)} {n i : Nat} : KeepsL (LeT B T G) ds i (boxT B T n i) :=
  ⟨fun _ _ _ _ hb h => by
    obtain ⟨h1, h2, cs, h3, h4⟩ := h
    obtain ⟨cs', h5, h6, -⟩ := hb.kind _ cs h2 h3
    exact ⟨h1, h2, cs', h5, h6.trans h4⟩, fun v s s' W e h => by have := e i (by simp); unfold boxT at *; rw [← this]; exact h⟩
/-- What is stored in it. -/
def stoT (B : Nat) (T : TypeId) (G : Array Value → World → Prop) (j : Nat) : Rl := fun _ s W => B ≤ s j ∧ ∃ cs, W.heap[s j]? = some (.cells cs T (0, 0)) ∧ G cs W
theorem stoT_k {ds : List (List Nat)} {i j : Nat} (hj : j ∈ i :: ds.getD i []) : KeepsL (LeT B T G) ds i (stoT B T G j) :=
  ⟨fun _ _ _ _ hb h => by
    obtain ⟨h2, cs, h3, h4⟩ := h
    obtain ⟨cs', h5, -, h6⟩ := hb.kind _ cs h2 h3
    exact ⟨h2, cs', h5, h6 h4⟩, fun v s s' W e h => by have := e j hj; unfold stoT at *; rw [← this]; exact h⟩
theorem OwnI.leT {B' : Nat} {xs : List Int} {g c : Nat} {W W' : World} (h : OwnI B' xs g c W) (hT : (T != 3) = true) (hb : LeT B T G W W') : OwnI B' xs g c W' := by
  have hT' : T ≠ 3 := bne_iff_ne.1 hT
  refine h.same hb.size ?_
  rcases h.2.2.2 with ⟨e, -⟩ | ⟨g', cap, cur, e, -, h6, -⟩
  · cases e
  · cases e
    rw [h6]
    exact hb.block _ _ h6 (.inr fun cs e => by simp only [Obj.cells.injEq] at e; exact hT' e.2.1.symm)
theorem TyBlk.leT {B' : Nat} {b : Bl} {v : Value} {W W' : World} (h : TyBlk B' b v W) (hT : (T != 3) = true) (hb : LeT B T G W W') : TyBlk B' b v W' := by
  obtain ⟨g1, c1, g2, c2, g3, c3, e, h1, h2, h3⟩ := h
  exact ⟨g1, c1, g2, c2, g3, c3, e, h1.leT hT hb, h2.leT hT hb, h3.leT hT hb⟩
theorem ty_k {ds : List (List Nat)} {i : Nat} {B' : Nat} {b : Bl} (hT : (T != 3) = true := by decide) : KeepsL (LeT B T G) ds i (ab fun v W => TyBlk B' b v W) :=
  ⟨fun _ _ _ _ hb h => TyBlk.leT h hT hb, fun _ _ _ _ _ h => h⟩
end
section
variable {P : Program} {ops : Array Oper} {Q : Exit → Act → World → Prop}
theorem opDoL_skip {Le : World → World → Prop} {i : Nat} {a : Act} {W W' : World} {R : Value → World → Prop} {o : Oper} (ho : ops[i]? = some o) (hg : o.guard = none ∧ o.dst = none) (hr : (execOp a.eval o).run P W = .ok .skip W') (hb : Le W W') (hR : R undef W') : OpDoL Le P ops Q i a W R := by
  intro K hK
  unfold wpOp
  simp only [ho, Region.wanted, hg.1, if_true]
  refine .inl ?_
  unfold Oper.wp
  rw [hr]
  have := hK undef W' hb hR
  rw [ho] at this
  simp only [Option.bind_some, hg.2] at this
  simp only [Oper.upon, hg.2]
  exact this
/-- The alloc of such a box. -/
theorem opT {B : Nat} {T : TypeId} {G : Array Value → World → Prop} {i n : Nat} {a : Act} {W : World} {s : Nat → Nat} {cs : Array Value} {o : Oper} (hG : GoodB G) (hB : B ≤ W.heap.size) (ho : ops[i]? = some o) (hg : o.guard = none) (hr : (execOp a.eval o).run P W = .ok (.value (.pointer (some ⟨W.heap.size, 0, none⟩))) (W.alloc (.cells cs T))) (hn : cs.size = n) :
    OpDoL (LeT B T G) P ops Q i a W (fun v W' => boxT B T n i v (upd s i W.heap.size) W') :=
  opDoL_value ho hg hr (LeT.of_below hG _ _ (balloc1 _ _)) ⟨by rw [upd_at], by rw [upd_at]; exact hB, cs, by rw [upd_at]; exact blk_new rfl, hn⟩
/-- The store. -/
theorem stoT_do {B : Nat} {T : TypeId} {G : Array Value → World → Prop} {i j n : Nat} {a : Act} {W : World} {s : Nat → Nat} {ty tt : TypeId} {x y : Operand} {pos : String} {af : Array Edge} {v : Value} (fin : Array Value) {g0 : Value}
    (ho : ops[i]? = some { dst := none, op := .store ty x y, type := tt, pos := pos, after := af, guard := none }) (hij : j ≠ i) (hbox : boxT B T n j g0 s W) (hx : a.eval x = .pointer (some ⟨(s j), 0, none⟩)) (hy : a.eval y = v) (hf : v.cells = fin) (hn : fin.size = n) (hi : (P.info? ty).map (·.size) = some n) (h1 : fin.toList.all (·.oneCell') = true) (hgood : G fin W) (hst : ∀ W', (∀ k x, k ≠ s j → W.heap[k]? = some x → W'.heap[k]? = some x) → W.heap.size ≤ W'.heap.size → G fin W → G fin W') (hst' : ∀ cs W', (∀ k x, k ≠ s j → W.heap[k]? = some x → W'.heap[k]? = some x) → W.heap.size ≤ W'.heap.size → (∃ cs0, W.heap[s j]? = some (.cells cs0 T (0, 0))) → G cs W → G cs W') :
    OpDoL (LeT B T G) P ops Q i a W (fun v W' => stoT B T G j v (upd s i W.heap.size) W') := by
  obtain ⟨-, hB, cs, hb, hsz⟩ := hbox
  subst hf
  have e : (cs.toList.take 0 ++ v.cells.toList ++ cs.toList.drop (0 + v.cells.size)).toArray = v.cells := by
    have : cs.toList.drop (0 + v.cells.size) = [] := List.drop_eq_nil_of_le (by simp; omega)
    rw [this]; simp
  have hr := run_seg (P := P) (a := a) (dst := none) (ty := ty) (tt := tt) (x := x) (y := y) (pos := pos) (af := af) (gd := none) (W' := W.setRow (s j) v.cells) rfl hx hy hb (by rw [hi, hn]) (decide_eq_true (by omega)) h1 e
  have hot : ∀ k x, k ≠ s j → W.heap[k]? = some x → (W.setRow (s j) v.cells).heap[k]? = some x := fun k x hk hx => by rw [setRow_other W (s j) k v.cells hk]; exact hx
  have hz : W.heap.size ≤ (W.setRow (s j) v.cells).heap.size := by rw [setRow_size]; exact Nat.le_refl _
  have hnew := setRow_heap W (s j) cs v.cells T (0, 0) hb
  refine opDoL_skip ho ⟨rfl, rfl⟩ hr ⟨rfl, rfl, rfl, hz, fun k x hk hn => ?_, fun k cs' hk hx => ?_⟩ ?_
  · by_cases e : k = s j
    · subst e
      rw [hb] at hk
      rcases hn with hn | hn
      · omega
      · exact absurd (Option.some.inj hk).symm (hn cs)
    · exact hot k x e hk
  · by_cases e : k = s j
    · subst e
      rw [hb] at hx
      have : cs = cs' := by simp only [Option.some.injEq, Obj.cells.injEq] at hx; exact hx.1
      subst this
      exact ⟨v.cells, hnew, by omega, fun _ => hst _ hot hz hgood⟩
    · exact ⟨cs', hot k _ e hx, rfl, fun g => hst' cs' _ hot hz ⟨cs, hb⟩ g⟩
  · show B ≤ (upd s i W.heap.size) j ∧ _
    rw [upd_other s _ hij]
    exact ⟨hB, v.cells, hnew, hst _ hot hz hgood⟩
end
/-- What is said of the content: just these cells. -/
def justC (fin : Array Value) (cs : Array Value) (_ : World) : Prop := cs = fin
theorem justC_b {fin : Array Value} : GoodB (justC fin) := fun _ _ _ _ h => h
end Go.Proofs.YthnediamopehfaaGreat
namespace Go.Proofs.YthnediamopehfaaGreat
open Go.RowKit
theorem sheet_b (x : Sh) (hx : ShIn x) (w : World) : Calls Tryz.prog 34 #[.agg #[.int .u8 x.x0, .int .u8 x.x1, .int .u8 x.x2, .int .u8 x.x3, .int .u8 x.xh, .int .u8 x.y0, .int .u8 x.y1, .int .u8 x.y2, .int .u8 x.y3, .bool x.xo, .int .u8 x.ca, .int .u8 x.cb, .int .u8 x.v0, .int .u8 x.v1, .int .u8 x.v2, .int .u8 x.v3, .int .u8 x.v4]] w (TyBlkP (shBl x) w) := by
  obtain ⟨h0, h1', h2', h3', hh, b0, b1, b2, b3, ca, cb, e0, e1, e2, e3, e4⟩ := hx
  exact sheet_blank x.x0 x.x1 x.x2 x.x3 x.xh x.y0 x.y1 x.y2 x.y3 x.xo x.ca x.cb x.v0 x.v1 x.v2 x.v3 x.v4 w h0 h1' h2' h3' hh b0 b1 b2 b3 ca cb e0 e1 e2 e3 e4
theorem sheet_c (x : Sh) (hx : ShIn x) (w : World) : Calls Tryz.prog 35 #[.agg #[.int .u8 x.x0, .int .u8 x.x1, .int .u8 x.x2, .int .u8 x.x3, .int .u8 x.xh, .int .u8 x.y0, .int .u8 x.y1, .int .u8 x.y2, .int .u8 x.y3, .bool x.xo, .int .u8 x.ca, .int .u8 x.cb, .int .u8 x.v0, .int .u8 x.v1, .int .u8 x.v2, .int .u8 x.v3, .int .u8 x.v4]] w (fun e w' => e = .returned (.agg #[.int .i64 (shCal x).1, .int .i64 (shCal x).2]) ∧ Below w.heap.size w w') := by
  obtain ⟨h0, h1', h2', h3', hh, b0, b1, b2, b3, ca, cb, e0, e1, e2, e3, e4⟩ := hx
  exact shCal_any x.x0 x.x1 x.x2 x.x3 x.xh x.y0 x.y1 x.y2 x.y3 x.xo x.ca x.cb x.v0 x.v1 x.v2 x.v3 x.v4 w h0 h1' h2' h3' hh b0 b1 b2 b3 ca cb e0 e1 e2 e3 e4
theorem twin_ty {B : Nat} (b : Bl) {v : Value} (w : World) (hT : TyBlk B b v w) (hck : checkErr b = 0) : Calls Tryz.prog 33 #[v] w (fun e w' => ∃ u, e = .returned u ∧ TyBlk B (twinB b) u w' ∧ Below w.heap.size w w') := by
  obtain ⟨⟨hl1, hl2, hl3⟩, -, -, gh, ⟨gp0, gp1, gp2, gp3⟩, gt0, gt1, gu0, gu1⟩ := good_nums hck
  obtain ⟨tab, panels, hh, top, bottom, sl, op⟩ := b
  obtain ⟨p0, p1, p2, p3, rfl⟩ := list_four hl1
  obtain ⟨t0, t1, rfl⟩ := list_two hl2
  obtain ⟨u0, u1, rfl⟩ := list_two hl3
  simp only [List.getD_cons_zero, List.getD_cons_succ] at gp0 gp1 gp2 gp3 gt0 gt1 gu0 gu1
  have gh : 1 ≤ hh ∧ hh ≤ 3000 := gh
  obtain ⟨g1, c1, g2, c2, g3, c3, rfl, h1, h2, h3⟩ := hT
  exact twin_any _ _ g3 B c1 c2 c3 tab p0 p1 p2 p3 hh t0 t1 u0 u1 sl op w h1.ii h2.ii h3
theorem wished_blk (x : Sh) (hx : ShIn x) (a1 a2 a3 : Option Addr) (c1 c2 c3 : Nat) (b : Bl) (lo hi : Int) (w : World) (h1 : Ii w a1 b.panels.length c1 b.panels) (h2 : Ii w a2 b.top.length c2 b.top) (h3 : Ii w a3 b.bottom.length c3 b.bottom) (hck : checkErr b = 0) (glo : 0 ≤ lo ∧ lo ≤ 100000) (ghi : 0 ≤ hi ∧ hi ≤ 100000) : Calls Tryz.prog 36 #[.agg #[.int .u8 x.x0, .int .u8 x.x1, .int .u8 x.x2, .int .u8 x.x3, .int .u8 x.xh, .int .u8 x.y0, .int .u8 x.y1, .int .u8 x.y2, .int .u8 x.y3, .bool x.xo, .int .u8 x.ca, .int .u8 x.cb, .int .u8 x.v0, .int .u8 x.v1, .int .u8 x.v2, .int .u8 x.v3, .int .u8 x.v4], .agg #[.int .i64 b.tab, .slice (a1) (b.panels.length) (c1), .int .i64 b.height, .slice (a2) (b.top.length) (c2), .slice (a3) (b.bottom.length) (c3), .int .i64 b.slot, .bool b.isOpen], .agg #[.int .i64 lo, .int .i64 hi]] w (fun e w' => e = .returned (.agg #[.int .i64 ((wishOf x b lo hi).length.1), .int .i64 ((wishOf x b lo hi).length.2), .int .i64 ((wishOf x b lo hi).width.1), .int .i64 ((wishOf x b lo hi).width.2), .int .i64 ((wishOf x b lo hi).height.1), .int .i64 ((wishOf x b lo hi).height.2), .int .i64 ((wishOf x b lo hi).outer.1), .int .i64 ((wishOf x b lo hi).outer.2), .int .i64 ((wishOf x b lo hi).inner.1), .int .i64 ((wishOf x b lo hi).inner.2), .bool b.isOpen]) ∧ Below w.heap.size w w') := by
  obtain ⟨⟨hl1, hl2, hl3⟩, -, -, gh, ⟨gp0, gp1, gp2, gp3⟩, gt0, gt1, gu0, gu1⟩ := good_nums hck
  obtain ⟨tab, panels, hh, top, bottom, sl, op⟩ := b
  obtain ⟨p0, p1, p2, p3, rfl⟩ := list_four hl1
  obtain ⟨t0, t1, rfl⟩ := list_two hl2
  obtain ⟨u0, u1, rfl⟩ := list_two hl3
  simp only [List.getD_cons_zero, List.getD_cons_succ] at gp0 gp1 gp2 gp3 gt0 gt1 gu0 gu1
  have gh : 1 ≤ hh ∧ hh ≤ 3000 := gh
  obtain ⟨h0, h1', h2', h3', hh', b0, b1, b2, b3, ca, cb, e0, e1, e2, e3, e4⟩ := hx
  exact wishS_any x.x0 x.x1 x.x2 x.x3 x.xh x.y0 x.y1 x.y2 x.y3 x.xo x.ca x.cb x.v0 x.v1 x.v2 x.v3 x.v4 a1 a2 a3 c1 c2 c3 tab p0 p1 p2 p3 hh t0 t1 u0 u1 sl op lo hi w h1 h2 h3 h0 h1' h2' h3' hh' b0 b1 b2 b3 ca cb e0 e1 e2 e3 e4 (by omega) (by omega) (by omega) (by omega) (by omega) (by omega) (by omega) (by omega) (by omega) glo ghi
theorem own_ty (a1 a2 a3 : Option Addr) (c1 c2 c3 : Nat) (b : Bl) (w : World) (h1 : Ii w a1 b.panels.length c1 b.panels) (h2 : Ii w a2 b.top.length c2 b.top) (h3 : Ii w a3 b.bottom.length c3 b.bottom) (hck : checkErr b = 0) : Calls Tryz.prog 13 #[.agg #[.int .i64 b.tab, .slice (a1) (b.panels.length) (c1), .int .i64 b.height, .slice (a2) (b.top.length) (c2), .slice (a3) (b.bottom.length) (c3), .int .i64 b.slot, .bool b.isOpen]] w (TyBlkP b w) := by
  obtain ⟨⟨hl1, hl2, hl3⟩, -, -, gh, ⟨gp0, gp1, gp2, gp3⟩, gt0, gt1, gu0, gu1⟩ := good_nums hck
  obtain ⟨tab, panels, hh, top, bottom, sl, op⟩ := b
  obtain ⟨p0, p1, p2, p3, rfl⟩ := list_four hl1
  obtain ⟨t0, t1, rfl⟩ := list_two hl2
  obtain ⟨u0, u1, rfl⟩ := list_two hl3
  simp only [List.getD_cons_zero, List.getD_cons_succ] at gp0 gp1 gp2 gp3 gt0 gt1 gu0 gu1
  have gh : 1 ≤ hh ∧ hh ≤ 3000 := gh
  refine (own_own a1 a2 a3 c1 c2 c3 tab p0 p1 p2 p3 hh t0 t1 u0 u1 sl op w h1 h2 h3).mono fun e w' h => ?_
  obtain ⟨v, e1, h, h4⟩ := h
  obtain ⟨g1, c1, g2, c2, g3, c3, e2, k1, k2, k3, -⟩ := h
  exact ⟨v, e1, ⟨g1, c1, g2, c2, g3, c3, e2, k1, k2, k3⟩, h4⟩
theorem pp_nth {W : World} {aa : Option Addr} {a o n c : Nat} {xs : List Sp} (h : Pp W aa n c xs) (ha : aa = some ⟨a, o, none⟩) {i : Nat} (hi : i < xs.length) :
    W.cell? ⟨a, o + i * 2, none⟩ = some (.int .i64 (nthP xs i).1) ∧ W.cell? ⟨a, o + i * 2 + 1, none⟩ = some (.int .i64 (nthP xs i).2) := pp_get h ha hi
def IsPpP (L : List Sp) (er : Int) (w : World) (e : Ending) (w' : World) : Prop := ∃ x, e = .returned (.tuple #[x, .int .i64 er]) ∧ IsPp L x w' ∧ Below w.heap.size w w'
theorem close_ok {u : Value} {b : Bl} (v : Wi) (lo hi : Int) (w : World) (hB : Blk w u b) (hck : checkErr b = 0) (hwi : wishErr v = 0) (h1 : 1 ≤ lo) (h2 : lo ≤ hi) (h3 : hi ≤ 10000) : Calls Tryz.prog 22 #[u, .agg #[.int .i64 v.length.1, .int .i64 v.length.2, .int .i64 v.width.1, .int .i64 v.width.2, .int .i64 v.height.1, .int .i64 v.height.2, .int .i64 v.outer.1, .int .i64 v.outer.2, .int .i64 v.inner.1, .int .i64 v.inner.2, .bool v.isOpen], .agg #[.int .i64 lo, .int .i64 hi]] w (IsPpP (closeL b v (lo, hi)) 0 w) := by
  have hE := wished_ok hck hwi h1 h2 h3
  refine (close_any u b v.length.1 v.length.2 v.width.1 v.width.2 v.height.1 v.height.2 v.outer.1 v.outer.2 v.inner.1 v.inner.2 v.isOpen lo hi w hB).mono fun e w' h => ?_
  obtain ⟨a, n, c, e1, h1, h2⟩ := h
  have hE' : wishedErr b ⟨(v.length.1, v.length.2), (v.width.1, v.width.2), (v.height.1, v.height.2), (v.outer.1, v.outer.2), (v.inner.1, v.inner.2), v.isOpen⟩ [(lo, hi)] = 0 := hE
  rw [hE'] at e1
  rw [if_pos hE'] at h1
  exact ⟨_, e1, isPp_of h1, h2⟩
theorem cal_ok {u : Value} {b : Bl} (v : Wi) (w : World) (hB : Blk w u b) : Calls Tryz.prog 23 #[u, .agg #[.int .i64 v.length.1, .int .i64 v.length.2, .int .i64 v.width.1, .int .i64 v.width.2, .int .i64 v.height.1, .int .i64 v.height.2, .int .i64 v.outer.1, .int .i64 v.outer.2, .int .i64 v.inner.1, .int .i64 v.inner.2, .bool v.isOpen]] w (fun e w' => e = .returned (.tuple #[.agg #[.int .i64 (calOf b v).1, .int .i64 (calOf b v).2], .int .i64 (calErr b v)]) ∧ Below w.heap.size w w') :=
  calipers_any u b v.length.1 v.length.2 v.width.1 v.width.2 v.height.1 v.height.2 v.outer.1 v.outer.2 v.inner.1 v.inner.2 v.isOpen w hB
end Go.Proofs.YthnediamopehfaaGreat
namespace Go.Proofs.YthnediamopehfaaGreat
open Go.RowKit
theorem open_top {b : Bl} (h : checkErr b = 0) (ho : b.isOpen = true) : b.top.getD 0 0 = 0 ∧ b.top.getD 1 0 = 0 := by
  obtain ⟨⟨-, h2, -⟩, -⟩ := good_nums h
  unfold checkErr at h
  split at h
  · cases h
  · split at h
    · cases h
    · split at h
      · cases h
      · rename_i hn
        obtain ⟨t, p, hh, top, u, s, o⟩ := b
        simp only at ho h2 hn
        match top, h2 with
        | [x, y], _ =>
          simp [ho, within] at hn
          simp; omega
end Go.Proofs.YthnediamopehfaaGreat
namespace Go.Proofs.YthnediamopehfaaGreat
open Go.RowKit
/-- A number of a list. -/
def nthI (xs : List Int) (i : Nat) : Int := xs.getD i 0
/-- A measure in micrometres. -/
def mic (b : Bl) (c : Int) (i : Nat) : Int := (microsOf b c).getD i 0
/-- Where a span around some micrometres lies, if it is not limited. -/
theorem lim_in {lo hi wd least most : Int} (hw : 0 ≤ wd) (h1 : 1000 * least ≤ lo) (h2 : hi ≤ 1000 * most) (h3 : lo ≤ hi) : 1000 * (limS (aroundS lo hi wd) least most).1 ≤ lo ∧ hi ≤ 1000 * (limS (aroundS lo hi wd) least most).2 := by
  unfold limS aroundS dn upw; simp only; omega
theorem twinSh (x : Sh) : twinB (shBl x) = ⟨30, [60 + x.x0, 60 + x.x1, 60 + x.x0, 60 + x.x1], 40 + x.xh, if x.xo = true then [0, 0] else [x.y2, x.y3], [x.y2, x.y3], 9, x.xo⟩ := rfl
theorem top_le (x : Sh) : (twinB (shBl x)).top.length ≤ 1000 := by
  rw [twinSh]; simp only; split <;> simp
theorem fold_k {x : Sh} (gx : ShIn x) {k : Nat} (hk : k < 10) : (holdsOf (twinB (shBl x)) (wishOf x (twinB (shBl x)) (shCal x).1 (shCal x).2) k).1 ≤ (shCal x).1 ∧ (shCal x).2 ≤ (holdsOf (twinB (shBl x)) (wishOf x (twinB (shBl x)) (shCal x).1 (shCal x).2) k).2 := by
  obtain ⟨c1, c2, c3⟩ := shCal_in gx
  have c4 : (shCal x).2 ≤ 7110 := by obtain ⟨-, -, -, -, -, -, -, -, -, a, b, -⟩ := gx; unfold shCal; simp only; omega
  obtain ⟨g0, g1, g2, g3, gh, a0, a1, a2, a3, -⟩ := gx
  have hw : ∀ n : Int, 0 ≤ n % 4 := fun n => by omega
  have hw6 : ∀ n : Int, 0 ≤ n % 6 := fun n => by omega
  rw [twinSh]
  generalize (shCal x).1 = lo at *
  generalize (shCal x).2 = hi at *
  have hu : ∀ n : Int, upI n 1 = n := fun n => by unfold upI; omega
  have hd : ∀ n : Int, downI n 1 = n := fun n => by unfold downI; omega
  have r0 := lim_in (lo := 1000 * (60 + x.x0) - hi) (hi := 1000 * (60 + x.x0) - lo) (least := 0) (most := 3000) (hw x.v0) (by omega) (by omega) (by omega)
  have r1 := lim_in (lo := 1000 * (60 + x.x1) - hi) (hi := 1000 * (60 + x.x1) - lo) (least := 0) (most := 3000) (hw x.v1) (by omega) (by omega) (by omega)
  have r3 := lim_in (lo := 1000 * (60 + x.x1) - hi - 2000 * x.y2) (hi := 1000 * (60 + x.x1) - lo - 2000 * x.y2) (least := -3000) (most := 3000) (hw6 x.v3) (by omega) (by omega) (by omega)
  have r4 := lim_in (lo := 1000 * (60 + x.x0) - hi - 2000 * x.y3) (hi := 1000 * (60 + x.x0) - lo - 2000 * x.y3) (least := -3000) (most := 3000) (hw6 x.v4) (by omega) (by omega) (by omega)
  cases ho : x.xo with
  | true =>
    have r2 := lim_in (lo := 1000 * (40 + x.xh) - 2 * hi + hi) (hi := 1000 * (40 + x.xh) - 2 * lo + lo) (least := 0) (most := 3000) (hw x.v2) (by omega) (by omega) (by omega)
    match k, hk with
    | 0, _ => simp [holdsOf, amongOf, both, every, hu, hd, meas, measOf, targetOf, wishOf, microsOf]; omega
    | 1, _ => simp [holdsOf, amongOf, both, every, hu, hd, meas, measOf, targetOf, wishOf, microsOf]; omega
    | 2, _ => simp [holdsOf, amongOf, both, every, hu, hd, meas, measOf, targetOf, wishOf, microsOf]; omega
    | 3, _ => simp [holdsOf, amongOf, both, every, hu, hd, meas, measOf, targetOf, wishOf, microsOf]; omega
    | 4, _ => simp [holdsOf, amongOf, both, every, hu, hd, meas, measOf, targetOf, wishOf, microsOf, foldsOf]; omega
    | 5, _ => simp [holdsOf, every, wishOf]; omega
    | 6, _ => simp [holdsOf, every, wishOf]; omega
    | 7, _ => simp [holdsOf, amongOf, both, every, hu, hd, meas, measOf, targetOf, wishOf, microsOf]; omega
    | 8, _ => simp [holdsOf, amongOf, both, every, hu, hd, meas, measOf, targetOf, wishOf, microsOf]; omega
    | 9, _ => simp [holdsOf, both, every]; omega
  | false =>
    have r2 := lim_in (lo := 1000 * (40 + x.xh) - 2 * hi) (hi := 1000 * (40 + x.xh) - 2 * lo) (least := 0) (most := 3000) (hw x.v2) (by omega) (by omega) (by omega)
    match k, hk with
    | 0, _ => simp [holdsOf, amongOf, both, every, hu, hd, meas, measOf, targetOf, wishOf, microsOf]; omega
    | 1, _ => simp [holdsOf, amongOf, both, every, hu, hd, meas, measOf, targetOf, wishOf, microsOf]; omega
    | 2, _ => simp [holdsOf, amongOf, both, every, hu, hd, meas, measOf, targetOf, wishOf, microsOf]; omega
    | 3, _ => simp [holdsOf, amongOf, both, every, hu, hd, meas, measOf, targetOf, wishOf, microsOf]; omega
    | 4, _ => simp [holdsOf, amongOf, both, every, upI, downI, meas, measOf, targetOf, wishOf, microsOf, foldsOf]; omega
    | 5, _ => simp [holdsOf, amongOf, both, every, hu, hd, meas, measOf, targetOf, wishOf, microsOf]; omega
    | 6, _ => simp [holdsOf, amongOf, both, every, hu, hd, meas, measOf, targetOf, wishOf, microsOf]; omega
    | 7, _ => simp [holdsOf, amongOf, both, every, hu, hd, meas, measOf, targetOf, wishOf, microsOf]; omega
    | 8, _ => simp [holdsOf, amongOf, both, every, hu, hd, meas, measOf, targetOf, wishOf, microsOf]; omega
    | 9, _ => simp [holdsOf, both, every]; omega
theorem fold_nil {x : Sh} (gx : ShIn x) : closeL (twinB (shBl x)) (wishOf x (twinB (shBl x)) (shCal x).1 (shCal x).2) ((shCal x).1, (shCal x).2) = [] :=
  (close_nil (shCal_in gx).2.1).2 fun _ hk => fold_k gx hk
/-- What Inner returns of a valid blank without an error of its measures. -/
theorem clamp_id {least n : Int} (h1 : least ≤ n) (h2 : n ≤ 3000) : clamp least 0 n = n := by unfold clamp; omega
theorem offB_id {b : Bl} (h : checkErr b = 0) : offB b 0 0 = b := by
  obtain ⟨⟨hl1, hl2, hl3⟩, -, -, gh, ⟨gp0, gp1, gp2, gp3⟩, gt0, gt1, gu0, gu1⟩ := good_nums h
  obtain ⟨tab, panels, hh, top, bottom, sl, op⟩ := b
  obtain ⟨p0, p1, p2, p3, rfl⟩ := list_four hl1
  obtain ⟨t0, t1, rfl⟩ := list_two hl2
  obtain ⟨u0, u1, rfl⟩ := list_two hl3
  simp only [List.getD_cons_zero, List.getD_cons_succ] at gp0 gp1 gp2 gp3 gt0 gt1 gu0 gu1 gh
  unfold offB
  simp only [List.map_cons, List.map_nil]
  rw [clamp_id gp0.1 gp0.2, clamp_id gp1.1 gp1.2, clamp_id gp2.1 gp2.2, clamp_id gp3.1 gp3.2, clamp_id gh.1 gh.2, clamp_id gu0.1 gu0.2, clamp_id gu1.1 gu1.2, clamp_id gt0.1 gt0.2, clamp_id gt1.1 gt1.2]
  cases op <;> rfl
theorem innerL_zero {b : Bl} (h : checkErr b = 0) (lo hi : Int) : innerL b (lo, hi) 0 = (meas b).map fun m => (1000 * m.1 - m.2 * hi, 1000 * m.1 - m.2 * lo) := by
  unfold innerL
  rw [show -(0 : Int) = 0 from rfl, offB_id h, List.zipWith_self]
theorem inner_at {b : Bl} (h : checkErr b = 0) (lo hi : Int) {i : Nat} (hi9 : i < 9) : nthP (innerL b (lo, hi) 0) i = (mic b hi i, mic b lo i) := by
  rw [innerL_zero h]
  unfold nthP mic microsOf meas measOf foldsOf
  match i, hi9 with
  | 0, _ => simp
  | 1, _ => simp
  | 2, _ => simp
  | 3, _ => simp
  | 4, _ => cases b.isOpen <;> simp <;> omega
  | 5, _ => simp; omega
  | 6, _ => simp; omega
  | 7, _ => simp; omega
  | 8, _ => simp; omega
theorem inner_len {b : Bl} (h : checkErr b = 0) (lo hi : Int) : (innerL b (lo, hi) 0).length = 9 := by
  rw [innerL_zero h]; rfl
theorem mic_le (b : Bl) {lo hi : Int} (h : lo ≤ hi) (i : Nat) : mic b hi i ≤ mic b lo i := micros_le b h i
theorem innerErr_ok {b : Bl} (h : checkErr b = 0) {lo hi off : Int} (h3 : 1 ≤ lo) (h4 : lo ≤ hi) (h5 : hi ≤ 10000) (h6 : 0 ≤ off) (h7 : off ≤ 5) : innerErr b (lo, hi) off = 0 := by
  have : isSpan (lo, hi) 1 10000 = true := by
    unfold isSpan within
    simp only [List.any_cons, List.any_nil, Bool.or_false, Bool.and_eq_true, Bool.not_eq_true', Bool.or_eq_false_iff, decide_eq_false_iff_not, decide_eq_true_eq]
    omega
  have h8 : within 0 5 [off] = true := by unfold within; simp; omega
  unfold innerErr checkedErr checkedErr
  simp [h, this, h8]
/-- A panel that stands beside no flap, longer by some. -/
def longer (b : Bl) (i : Nat) (n : Int) : Bl := { b with panels := b.panels.set i n }
theorem longer_holds (b : Bl) (w : Wi) {i : Nat} (hi : i = 2 ∨ i = 3) (n : Int) {k : Nat} (hk : k ≠ i) : holdsOf (longer b i n) w k = holdsOf b w k := by
  have hm : k < 9 → (meas (longer b i n)).getD k (0, 0) = (meas b).getD k (0, 0) := by
    intro hk9
    unfold meas measOf longer
    rcases hi with rfl | rfl
    · match k, hk9, hk with
      | 0, _, _ => simp
      | 1, _, _ => simp
      | 2, _, h => exact absurd rfl h
      | 3, _, _ => simp
      | 4, _, _ => simp
      | 5, _, _ => simp
      | 6, _, _ => simp
      | 7, _, _ => simp
      | 8, _, _ => simp
    · match k, hk9, hk with
      | 0, _, _ => simp
      | 1, _, _ => simp
      | 2, _, _ => simp
      | 3, _, h => exact absurd rfl h
      | 4, _, _ => simp
      | 5, _, _ => simp
      | 6, _, _ => simp
      | 7, _, _ => simp
      | 8, _, _ => simp
  have hm' : (meas (longer b i n)).getD k (0, 0) = (meas b).getD k (0, 0) := by
    rcases Nat.lt_or_ge k 9 with h | h
    · exact hm h
    · have e : ∀ b : Bl, (meas b).getD k (0, 0) = (0, 0) := fun b => by
        rw [List.getD_eq_getElem?_getD, List.getElem?_eq_none (by unfold meas measOf; simpa using h)]; rfl
      rw [e, e]
  unfold holdsOf
  rw [hm']
  rfl
theorem longer_ok {b : Bl} (h : checkErr b = 0) {i : Nat} (hi : i = 2 ∨ i = 3) {n : Int} (h1 : 1 ≤ n) (h2 : n ≤ 3000) : checkErr (longer b i n) = 0 := by
  obtain ⟨⟨hl1, hl2, hl3⟩, gt, gs, gh, ⟨gp0, gp1, gp2, gp3⟩, gt0, gt1, gu0, gu1⟩ := good_nums h
  have hop : b.isOpen = true → b.top.getD 0 0 = 0 ∧ b.top.getD 1 0 = 0 := open_top h
  obtain ⟨tab, panels, hh, top, bottom, sl, op⟩ := b
  obtain ⟨p0, p1, p2, p3, rfl⟩ := list_four hl1
  obtain ⟨t0, t1, rfl⟩ := list_two hl2
  obtain ⟨u0, u1, rfl⟩ := list_two hl3
  simp only [List.getD_cons_zero, List.getD_cons_succ] at gp0 gp1 gp2 gp3 gt0 gt1 gu0 gu1 gh hop
  rcases hi with rfl | rfl
  · exact check_ok gt gs gh gp0 gp1 ⟨h1, h2⟩ gp3 gt0 gt1 gu0 gu1 hop
  · exact check_ok gt gs gh gp0 gp1 gp2 ⟨h1, h2⟩ gt0 gt1 gu0 gu1 hop
theorem longer_close {b : Bl} {w : Wi} {lo hi : Int} (hlh : lo ≤ hi) (hn : closeL b w (lo, hi) = []) {i : Nat} (hi' : i = 2 ∨ i = 3) {n : Int} (hge : b.panels.getD i 0 ≤ n) (hl : b.panels.length = 4) (h1 : 1 ≤ lo) (h2 : hi ≤ 10000) :
    closeL (longer b i n) w (lo, hi) = if 1000 * n - lo ≤ 1000 * (if i = 3 then w.width.2 else w.length.2) then [] else [((i : Int), lo)] := by
  have hk := (close_nil hlh).1 hn
  have ho : ∀ k, k < 10 → k ≠ i → badOf (longer b i n) w (lo, hi) k = none := fun k h3 h4 => (bad_none hlh).2 (by rw [longer_holds b w hi' n h4]; exact hk k h3)
  have hu : ∀ n : Int, upI n 1 = n := fun n => by unfold upI; omega
  have hd : ∀ n : Int, downI n 1 = n := fun n => by unfold downI; omega
  have hi0 := hk i (by omega)
  have hme : holdsOf (longer b i n) w i = both every (1000 * (n - (if i = 3 then w.width.2 else w.length.2)), 1000 * (n - (if i = 3 then w.width.1 else w.length.1))) ∧ holdsOf b w i = both every (1000 * (b.panels.getD i 0 - (if i = 3 then w.width.2 else w.length.2)), 1000 * (b.panels.getD i 0 - (if i = 3 then w.width.1 else w.length.1))) := by
    obtain ⟨tab, panels, hh, top, bottom, sl, op⟩ := b
    obtain ⟨p0, p1, p2, p3, rfl⟩ := list_four hl
    rcases hi' with rfl | rfl <;> simp [holdsOf, amongOf, hu, hd, meas, measOf, targetOf, longer]
  rw [hme.2] at hi0
  simp only [both, every] at hi0
  generalize (if i = 3 then w.width.2 else w.length.2) = mx at *
  generalize (if i = 3 then w.width.1 else w.length.1) = mn at *
  by_cases hc : 1000 * n - lo ≤ 1000 * mx
  · rw [if_pos hc, close_nil hlh]
    intro k h3
    by_cases h4 : k = i
    · subst h4
      rw [hme.1]; simp only [both, every]; omega
    · rw [longer_holds b w hi' n h4]; exact hk k h3
  · rw [if_neg hc]
    have hb : badOf (longer b i n) w (lo, hi) i = some ((i : Int), lo) := by
      have hno : ¬ ((holdsOf (longer b i n) w i).1 ≤ lo ∧ lo ≤ (holdsOf (longer b i n) w i).2) := by rw [hme.1]; simp only [both, every]; omega
      unfold badOf
      simp only
      rw [if_neg hno, if_pos hlh]
    unfold closeL closeTo
    rcases hi' with rfl | rfl
    · simp [List.range, List.range.loop, ho 0, ho 1, hb, ho 3, ho 4, ho 5, ho 6, ho 7, ho 8, ho 9]
    · simp [List.range, List.range.loop, ho 0, ho 1, hb, ho 2, ho 4, ho 5, ho 6, ho 7, ho 8, ho 9]
end Go.Proofs.YthnediamopehfaaGreat
namespace Go.Proofs.YthnediamopehfaaGreat
open Go.RowKit
theorem OwnI.iin {B : Nat} {xs : List Int} {g c n : Nat} {W : World} (h : OwnI B xs g c W) (hn : xs.length = n) : Ii W (some ⟨g, 0, none⟩) n c xs := hn ▸ h.ii
end Go.Proofs.YthnediamopehfaaGreat
namespace Go.Proofs.YthnediamopehfaaGreat
open Go.RowKit
theorem inner_ok {u : Value} {b : Bl} (lo hi off : Int) (w : World) (hB : Blk w u b) (hck : checkErr b = 0) (h1 : 1 ≤ lo) (h2 : lo ≤ hi) (h3 : hi ≤ 10000) (h4 : 0 ≤ off) (h5 : off ≤ 5) : Calls Tryz.prog 14 #[u, .agg #[.int .i64 lo, .int .i64 hi], .int .i64 off] w (IsPpP (innerL b (lo, hi) off) 0 w) := by
  have hE := innerErr_ok hck h1 h2 h3 h4 h5
  refine (inner_any u b lo hi off w hB (by omega) (by omega)).mono fun e w' h => ?_
  obtain ⟨a, n, c, e1, h1, h2⟩ := h
  rw [hE] at e1
  rw [if_pos hE] at h1
  exact ⟨_, e1, isPp_of h1, h2⟩
theorem micros_blk (a1 a2 a3 : Option Addr) (c1 c2 c3 : Nat) (b : Bl) (c : Int) (w : World) (h1 : Ii w a1 b.panels.length c1 b.panels) (h2 : Ii w a2 b.top.length c2 b.top) (h3 : Ii w a3 b.bottom.length c3 b.bottom) (hck : checkErr b = 0) (hc : 0 ≤ c ∧ c ≤ 100000) : Calls Tryz.prog 37 #[.agg #[.int .i64 b.tab, .slice (a1) (b.panels.length) (c1), .int .i64 b.height, .slice (a2) (b.top.length) (c2), .slice (a3) (b.bottom.length) (c3), .int .i64 b.slot, .bool b.isOpen], .int .i64 c] w (fun e w' => e = .returned (.agg #[.int .i64 (mic b c 0), .int .i64 (mic b c 1), .int .i64 (mic b c 2), .int .i64 (mic b c 3), .int .i64 (mic b c 4), .int .i64 (mic b c 5), .int .i64 (mic b c 6), .int .i64 (mic b c 7), .int .i64 (mic b c 8)]) ∧ Below w.heap.size w w') := by
  obtain ⟨⟨hl1, hl2, hl3⟩, -, -, gh, ⟨gp0, gp1, gp2, gp3⟩, gt0, gt1, gu0, gu1⟩ := good_nums hck
  obtain ⟨tab, panels, hh, top, bottom, sl, op⟩ := b
  obtain ⟨p0, p1, p2, p3, rfl⟩ := list_four hl1
  obtain ⟨t0, t1, rfl⟩ := list_two hl2
  obtain ⟨u0, u1, rfl⟩ := list_two hl3
  simp only [List.getD_cons_zero, List.getD_cons_succ] at gp0 gp1 gp2 gp3 gt0 gt1 gu0 gu1
  have gh : 1 ≤ hh ∧ hh ≤ 3000 := gh
  exact micros_any a1 a2 a3 c1 c2 c3 tab p0 p1 p2 p3 hh t0 t1 u0 u1 sl op c w h1 h2 h3 (by omega) (by omega) (by omega) (by omega) (by omega) (by omega) (by omega) (by omega) (by omega) hc
theorem mic_cell {b : Bl} {c : Int} {j : Nat} (h : j < 9) : (#[.int .i64 (mic b c 0), .int .i64 (mic b c 1), .int .i64 (mic b c 2), .int .i64 (mic b c 3), .int .i64 (mic b c 4), .int .i64 (mic b c 5), .int .i64 (mic b c 6), .int .i64 (mic b c 7), .int .i64 (mic b c 8)] : Array Value)[j]? = some (.int .i64 (mic b c j)) := by
  match j, h with
  | 0, _ => rfl
  | 1, _ => rfl
  | 2, _ => rfl
  | 3, _ => rfl
  | 4, _ => rfl
  | 5, _ => rfl
  | 6, _ => rfl
  | 7, _ => rfl
  | 8, _ => rfl
/-- The lowest caliper, the highest one, and one between. -/
def mid3 (lo hi : Int) (k : Nat) : Int := [lo, hi, (lo + hi) / 2].getD k 0
theorem mid3_in {lo hi : Int} (h : lo ≤ hi) {k : Nat} (hk : k = 0 ∨ k = 1 ∨ k = 2) : lo ≤ mid3 lo hi k ∧ mid3 lo hi k ≤ hi := by
  unfold mid3
  rcases hk with rfl | rfl | rfl
  · simp; omega
  · simp; omega
  · simp; omega
theorem own_ow (a1 a2 a3 : Option Addr) (c1 c2 c3 : Nat) (b : Bl) (w : World) (h1 : Ii w a1 b.panels.length c1 b.panels) (h2 : Ii w a2 b.top.length c2 b.top) (h3 : Ii w a3 b.bottom.length c3 b.bottom) (hck : checkErr b = 0) : Calls Tryz.prog 13 #[.agg #[.int .i64 b.tab, .slice (a1) (b.panels.length) (c1), .int .i64 b.height, .slice (a2) (b.top.length) (c2), .slice (a3) (b.bottom.length) (c3), .int .i64 b.slot, .bool b.isOpen]] w (OwBlkP b w) := by
  obtain ⟨⟨hl1, hl2, hl3⟩, -, -, gh, ⟨gp0, gp1, gp2, gp3⟩, gt0, gt1, gu0, gu1⟩ := good_nums hck
  obtain ⟨tab, panels, hh, top, bottom, sl, op⟩ := b
  obtain ⟨p0, p1, p2, p3, rfl⟩ := list_four hl1
  obtain ⟨t0, t1, rfl⟩ := list_two hl2
  obtain ⟨u0, u1, rfl⟩ := list_two hl3
  simp only [List.getD_cons_zero, List.getD_cons_succ] at gp0 gp1 gp2 gp3 gt0 gt1 gu0 gu1
  have gh : 1 ≤ hh ∧ hh ≤ 3000 := gh
  exact own_own a1 a2 a3 c1 c2 c3 tab p0 p1 p2 p3 hh t0 t1 u0 u1 sl op w h1 h2 h3
theorem set_nth {xs : List Int} {i : Nat} {n : Int} (h : i < xs.length) : (xs.set i n).getD i 0 = n := by simp [List.getD_eq_getElem?_getD, h]
end Go.Proofs.YthnediamopehfaaGreat
namespace Go.Proofs.YthnediamopehfaaGreat
open Go.RowKit
def tailC : Nat → Code → Code
  | n + 1, .seq _ b => tailC n b
  | _, c => c
def bodyC (f : Func) : Code := f.body.getD .skip
end Go.Proofs.YthnediamopehfaaGreat
namespace Go.Proofs.YthnediamopehfaaGreat
open Go.RowKit
theorem range_block {W : World} {b : Nat} {cs : Array Value} {T : TypeId} {p : Nat × Nat} (hb : W.heap[b]? = some (.cells cs T p)) : W.rangeAt b 0 cs.toList := by
  intro j v hj
  rw [Nat.zero_add, Joins.cell_of_block hb j, ← hj, Array.getElem?_toList]
theorem run_load_block {P : Program} {W : World} {b : Nat} {cs : Array Value} {T : TypeId} {p : Nat × Nat} {ty : TypeId} {d : TypeDesc} (hb : W.heap[b]? = some (.cells cs T p)) (hu : P.underlying ty = some d) (hd : d.isRow = true) (hi : (P.info? ty).map (·.size) = some cs.size) :
    (Instr.loadAt ty (.pointer (some ⟨b, 0, none⟩))).run P W = .ok (.agg cs) W := by
  have h := run_loadAt_mid (P := P) W b 0 ty cs.toList d (range_block hb) hu hd (by rw [Array.length_toList]; exact hi)
  rw [Array.toArray_toList] at h
  exact h
theorem opl {P : Program} {ops : Array Oper} {Q : Exit → Act → World → Prop} {i : Nat} {a : Act} {W : World} {R : Value → World → Prop} {o : Oper} {ty : TypeId} {x : Operand} {b : Nat} {cs : Array Value} {T : TypeId} {p : Nat × Nat} {d : TypeDesc}
    (ho : ops[i]? = some o) (hg : o.guard = none) (hop : o.op = .load ty x) (hx : a.eval x = .pointer (some ⟨b, 0, none⟩)) (hb : W.heap[b]? = some (.cells cs T p)) (hu : P.underlying ty = some d) (hd : d.isRow = true) (hi : (P.info? ty).map (·.size) = some cs.size) (hR : R (.agg cs) W) : OpDo P ops Q i a W R := by
  refine opv ho hg ?_ hR
  unfold execOp
  simp only [hop, hx, Sem.run_bind, run_load_block hb hu hd hi, Result.andThen_ok, Sem.run_pure]
end Go.Proofs.YthnediamopehfaaGreat
