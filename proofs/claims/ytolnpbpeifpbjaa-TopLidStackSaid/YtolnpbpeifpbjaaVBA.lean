/- Part of the proof: what the claim leans on. -/
import Derived.Test.YtolnpbpeifpbjaaVAY
import Derived.Test.YtolnpbpeifpbjaaVAV
import Derived.Test.YtolnpbpeifpbjaaVAZ
import Derived.Test.YtolnpbpeifpbjaaVAX
import Derived.Test.YtolnpbpeifpbjaaVAI
import Derived.Test.YtolnpbpeifpbjaaVAD
import Derived.Test.YtolnpbpeifpbjaaVAB
set_option maxHeartbeats 4000000
set_option maxRecDepth 100000
set_option linter.unusedSimpArgs false
set_option linter.unusedVariables false
namespace Go.Proofs.Ytolnpbpeifpbjaa
open Go.RowKit
section
variable {B : Nat} {T : TypeId → Bool} {G : TypeId → Array Value → World → Prop}
theorem OwnN.leK {T1 : TypeId} {z B' n c : Nat} {cs : List Value} {a : Option Addr} {W W' : World} (h : OwnN T1 z B' n cs a c W) (hb : LeK B T G W W') (hT : T T1 = false := by rfl) : OwnN T1 z B' n cs a c W' := by
  rcases h with h | ⟨g, e, h⟩
  · exact .inl h
  · refine .inr ⟨g, e, h.same hb.size fun x hx => ?_⟩
    rcases h.2.2.2 with ⟨e, -⟩ | ⟨g', cap, cur, e, h5, h6, h7⟩
    · cases e
    · cases e
      have e2 := hx.symm.trans h6
      obtain rfl := Option.some.inj e2
      exact hb.block _ _ h6 (.inr fun cs t ht e => by simp only [Obj.cells.injEq] at e; rw [← e.2.1, hT] at ht; cases ht)
theorem StoN.leK {B' n m : Nat} {ps : Nat → Pa} {qs : Nat → Fu} {v : Value} {W W' : World} (h : StoN B' n m ps qs v W) (hb : LeK B T G W W') (hT : T 103 = false := by rfl) (hT' : T 105 = false := by rfl) : StoN B' n m ps qs v W' := by
  obtain ⟨g1, c1, g2, c2, e, h1, h2⟩ := h
  exact ⟨g1, c1, g2, c2, e, h1.leK hb hT, h2.leK hb hT'⟩
theorem MkV.leK {n m nb : Nat} {ps : Nat → Pa} {bs : Nat → Int} {v : Value} {W W' : World} (h : MkV n m ps nb bs v W) (hb : LeK B T G W W') (hT : T 3 = false := by rfl) : MkV n m ps nb bs v W' := by
  obtain ⟨u, e, ⟨hx, g1, c1, g2, c2, e', h1, h2⟩ | ⟨hx, g1, c1, g2, c2, e', h1, h2⟩⟩ := h
  · exact ⟨u, e, .inl ⟨hx, g1, c1, g2, c2, e', h1.leK hT hb, h2.leK hT hb⟩⟩
  · exact ⟨u, e, .inr ⟨hx, g1, c1, g2, c2, e', h1.leK hT hb, h2.leK hT hb⟩⟩
theorem abK_k {ds : List (List Nat)} {i : Nat} {p : Value → World → Prop} (h : ∀ v W W', LeK B T G W W' → p v W → p v W') : KeepsL (LeK B T G) ds i (ab p) := ⟨fun v _ W W' hb hp => h v W W' hb hp, fun _ _ _ _ _ h => h⟩
end
theorem inside_grow {b d : Bl} {c x y z : Int} (h0 : b.panels.getD 0 0 ≤ d.panels.getD 0 0) (h1 : b.panels.getD 1 0 ≤ d.panels.getD 1 0) (h2 : b.panels.getD 2 0 ≤ d.panels.getD 2 0) (h3 : b.panels.getD 3 0 ≤ d.panels.getD 3 0) (hh : heightR b c = heightR d c) (hi : insideB b c x y z = true) : insideB d c x y z = true := by
  have hL : min (panR b 0 c) (panR b 2 c) ≤ min (panR d 0 c) (panR d 2 c) := by unfold panR; omega
  have hM : min (panR b 1 c) (panR b 3 c) ≤ min (panR d 1 c) (panR d 3 c) := by unfold panR; omega
  have hN : heightR b c ≤ heightR d c := by omega
  unfold insideB at *
  simp only [Bool.or_eq_true, Bool.and_eq_true, decide_eq_true_eq] at *
  rcases hi with ⟨⟨a1, a2⟩, a3⟩ | ⟨⟨a1, a2⟩, a3⟩ | ⟨⟨a1, a2⟩, a3⟩ | ⟨⟨a1, a2⟩, a3⟩ | ⟨⟨a1, a2⟩, a3⟩ | ⟨⟨a1, a2⟩, a3⟩
  · exact (.inl ⟨⟨Int.le_trans a1 hL, Int.le_trans a2 hM⟩, Int.le_trans a3 hN⟩)
  · exact (.inr (.inl ⟨⟨Int.le_trans a1 hL, Int.le_trans a2 hM⟩, Int.le_trans a3 hN⟩))
  · exact (.inr (.inr (.inl ⟨⟨Int.le_trans a1 hL, Int.le_trans a2 hM⟩, Int.le_trans a3 hN⟩)))
  · exact (.inr (.inr (.inr (.inl ⟨⟨Int.le_trans a1 hL, Int.le_trans a2 hM⟩, Int.le_trans a3 hN⟩))))
  · exact (.inr (.inr (.inr (.inr (.inl ⟨⟨Int.le_trans a1 hL, Int.le_trans a2 hM⟩, Int.le_trans a3 hN⟩)))))
  · exact (.inr (.inr (.inr (.inr (.inr ⟨⟨Int.le_trans a1 hL, Int.le_trans a2 hM⟩, Int.le_trans a3 hN⟩)))))
theorem armBlank_own (a1 a2 a3 : Option Addr) (c1 c2 c3 : Nat) (tab p0 p1 p2 p3 hh t0 t1 u0 u1 sl : Int) (op : Bool) (w : World) (h1 : Ii w a1 4 c1 [p0, p1, p2, p3]) (h2 : Ii w a2 2 c2 [t0, t1]) (h3 : Ii w a3 2 c3 [u0, u1]) :
  Calls Try.prog 19 #[.agg #[.int .i64 tab, .slice a1 4 c1, .int .i64 hh, .slice a2 2 c2, .slice a3 2 c3, .int .i64 sl, .bool op]] w (OwBlkP ⟨tab, [p0, p1, p2, p3], hh, [t0, t1], [u0, u1], sl, op⟩ w) := by
 refine calls_fr Try.func19 Try.ntmps19 rfl rfl fun g hg => ?_
 have k0 : g 0 = .agg #[.int .i64 tab, .slice a1 4 c1, .int .i64 hh, .slice a2 2 c2, .slice a3 2 c3, .int .i64 sl, .bool op] := hg 0
 clear hg
 have fB0 : Below w.heap.size w w := Below.refl _ _
 refine rw_ 2 [(1, 0), (2, 1)] [[], []] (rel [bx 0 #[.int .i64 tab, .slice a1 4 c1, .int .i64 hh, .slice a2 2 c2, .slice a3 2 c3, .int .i64 sl, .bool op] 41, bx 1 #[.int .i64 0, .slice none 0 0, .int .i64 0, .slice none 0 0, .slice none 0 0, .int .i64 0, .bool false] 41])
  ⟨fun f s W c d i j l a => opb rfl rfl (by simp [go_sem, a.e 0 k0]),
  fun f s W c d i j l a => opb rfl rfl (by simp [go_sem]), trivial⟩ ?_
 intro f1 s1 W1 hB1 g1 hg1 z1
 have fB1 := hB1.f fB0
 obtain ⟨r1_0, br1_0⟩ := hB1.is 0
 have lr1_0 := hB1.lr 0 br1_0
 obtain ⟨r1_1, br1_1⟩ := hB1.is 1
 have lr1_1 := hB1.lr 1 br1_1
 have ne1_0_1 := hB1.nb 0 1
 have k1_1 := kt hg1 1 r1_0
 refine wp_seq_k fun K2 hK2 => ?_
 refine rz 10 [(3, 0), (4, 1), (5, 2), (6, 3), (7, 4), (8, 5), (9, 6), (10, 7), (11, 8), (12, 9), (13, 11), (14, 13)] [[], [0], [1], [], [3], [4], [], [6], [5, 7], [], [0, 1, 2, 3, 4, 5, 6, 7, 8, 9], [0, 1, 2, 3, 4, 5, 6, 7, 8, 9, 10], [0, 1, 2, 3, 4, 5, 6, 7, 8, 9, 10, 11], [0, 1, 2, 3, 4, 5, 6, 7, 8, 9, 10, 11, 12], [0, 1, 2, 3, 4, 5, 6, 7, 8, 9, 10, 11, 12, 13]] (rel [is (.pointer (some ⟨(s1 0), 1, none⟩)), is (.slice a1 4 c1), fun v s W => OwI (s 2) ([p0, p1, p2, p3]) 4 v W, is (.pointer (some ⟨(s1 0), 3, none⟩)), is (.slice a2 2 c2), fun v s W => OwI (s 5) ([t0, t1]) 2 v W, is (.pointer (some ⟨(s1 0), 4, none⟩)), is (.slice a3 2 c3), fun v s W => OwI (s 8) ([u0, u1]) 2 v W, is (.pointer (some ⟨(s1 0), 1, none⟩))])
  ⟨is_k, is_k, ⟨fun v k W W' hb h => h.below hb, fun v s s' W e h => by have h' : OwI (s 2) ([p0, p1, p2, p3]) 4 v W := h; show OwI (s' 2) ([p0, p1, p2, p3]) 4 v W; rw [← e 2 (by simp)]; exact h'⟩, is_k, is_k, ⟨fun v k W W' hb h => h.below hb, fun v s s' W e h => by have h' : OwI (s 5) ([t0, t1]) 2 v W := h; show OwI (s' 5) ([t0, t1]) 2 v W; rw [← e 5 (by simp)]; exact h'⟩, is_k, is_k, ⟨fun v k W W' hb h => h.below hb, fun v s s' W e h => by have h' : OwI (s 8) ([u0, u1]) 2 v W := h; show OwI (s' 8) ([u0, u1]) 2 v W; rw [← e 8 (by simp)]; exact h'⟩, is_k, trivial⟩
  ⟨fun f s W c d i j l a => opv rfl rfl (by simp [go_sem, a.e 1 k1_1]) rfl,
  fun f s W c d i j l a => opv rfl rfl (by simp [go_sem, a.e 3 (d 0 rfl), cb br1_0 c 1]) rfl,
  fun f s W c d i j l a => by have m := bwt fB1 c; exact opd rfl rfl (by simp [go_sem, a.e 4 (d 1 rfl)]) (armInts_own a1 c1 4 [p0, p1, p2, p3] W (h1.below m (Nat.le_refl _)) (by decide) (by decide)) (fun e W' h => by obtain ⟨v, e1, h1, h2⟩ := h; exact ⟨v, e1, h2, (show OwI (upd s 2 W.heap.size 2) ([p0, p1, p2, p3]) 4 v W' from by rw [upd_at]; exact h1)⟩),
  fun f s W c d i j l a => opv rfl rfl (by simp [go_sem, a.e 1 k1_1]) rfl,
  fun f s W c d i j l a => opv rfl rfl (by simp [go_sem, a.e 6 (d 3 rfl), cb br1_0 c 3]) rfl,
  fun f s W c d i j l a => by have m := bwt fB1 c; exact opd rfl rfl (by simp [go_sem, a.e 7 (d 4 rfl)]) (armInts_own a2 c2 2 [t0, t1] W (h2.below m (Nat.le_refl _)) (by decide) (by decide)) (fun e W' h => by obtain ⟨v, e1, h1, h2⟩ := h; exact ⟨v, e1, h2, (show OwI (upd s 5 W.heap.size 5) ([t0, t1]) 2 v W' from by rw [upd_at]; exact h1)⟩),
  fun f s W c d i j l a => opv rfl rfl (by simp [go_sem, a.e 1 k1_1]) rfl,
  fun f s W c d i j l a => opv rfl rfl (by simp [go_sem, a.e 9 (d 6 rfl), cb br1_0 c 4]) rfl,
  fun f s W c d i j l a => by have m := bwt fB1 c; exact opd rfl rfl (by simp [go_sem, a.e 10 (d 7 rfl)]) (armInts_own a3 c3 2 [u0, u1] W (h3.below m (Nat.le_refl _)) (by decide) (by decide)) (fun e W' h => by obtain ⟨v, e1, h1, h2⟩ := h; exact ⟨v, e1, h2, (show OwI (upd s 8 W.heap.size 8) ([u0, u1]) 2 v W' from by rw [upd_at]; exact h1)⟩),
  fun f s W c d i j l a => opv rfl rfl (by simp [go_sem, a.e 1 k1_1]) rfl, trivial⟩ ?_
 intro f2 s2 W2 hB2 g2 hg2 z2
 have fB2 := hB2.f fB1
 have b2_0 := hB2.b br1_0
 have b2_1 := hB2.b br1_1
 obtain ⟨g1', c2', r2_2, q3'⟩ := hB2.is 2
 have la2_2 := hB2.from' 2 (by decide)
 have lo2_2_o := q3'.lim
 have q4' := q3'.low (B' := w.heap.size) (Nat.le_trans fB1.size (la2_2))
 obtain ⟨g5', c6', r2_5, q7'⟩ := hB2.is 5
 have la2_5 := hB2.from' 5 (by decide)
 have lo2_5_o := q7'.lim
 have q8' := q7'.low (B' := w.heap.size) (Nat.le_trans fB1.size (la2_5))
 obtain ⟨g9', c10', r2_8, q11'⟩ := hB2.is 8
 have la2_8 := hB2.from' 8 (by decide)
 have lo2_8_o := q11'.lim
 have q12' := q11'.low (B' := w.heap.size) (Nat.le_trans fB1.size (la2_8))
 have ow2_5_o_2_o := hB2.two 5 2 (by decide) (by decide) (by decide) lo2_5_o.1 lo2_2_o.1 (fun W h => OwI.lt h r2_5) (fun W h => OwI.lt h r2_2)
 have ow2_8_o_2_o := hB2.two 8 2 (by decide) (by decide) (by decide) lo2_8_o.1 lo2_2_o.1 (fun W h => OwI.lt h r2_8) (fun W h => OwI.lt h r2_2)
 have ow2_8_o_5_o := hB2.two 8 5 (by decide) (by decide) (by decide) lo2_8_o.1 lo2_5_o.1 (fun W h => OwI.lt h r2_8) (fun W h => OwI.lt h r2_5)
 have k2_1 := kt hg2 1 k1_1
 have k2_5 := kt hg2 5 r2_2
 have k2_12 := kt hg2 12 (hB2.is 9)
 obtain ⟨W3, hW3⟩ : ∃ W', W' = W2.setRow (s1 0) #[.int .i64 tab, .slice (some ⟨g1', 0, none⟩) 4 c2', .int .i64 hh, .slice a2 2 c2, .slice a3 2 c3, .int .i64 sl, .bool op] := ⟨_, rfl⟩
 refine tsk (o := _) rfl ⟨rfl, rfl⟩ (run_seg hW3 (fr_ev k2_12) (fr_ev k2_5) b2_0 rfl rfl rfl rfl) ?_
 obtain ⟨fB3, nb3, ot3, z3⟩ := sgf hW3 fB2 b2_0 (by omega)
 clear hW3
 have b3_1 := ot3 _ _ (by omega) b2_1
 have q13' := q4'.other ot3 (by omega) z3
 have q14' := q8'.other ot3 (by omega) z3
 have q15' := q12'.other ot3 (by omega) z3
 refine tail_value (o := _) rfl rfl rfl (v := .pointer (some ⟨(s1 0), 3, none⟩)) (by simp [go_sem, frv 16 k2_1]) ?_
 generalize hg4 : upd g2 13 (.pointer (some ⟨(s1 0), 3, none⟩)) = g4
 have k4_1 := ku hg4 1 k2_1
 have k4_8 := ku hg4 8 (kt hg2 8 r2_5)
 have k4_13 := kt hg4 13 (upd_same _ _ _)
 obtain ⟨W5, hW5⟩ : ∃ W', W' = W3.setRow (s1 0) #[.int .i64 tab, .slice (some ⟨g1', 0, none⟩) 4 c2', .int .i64 hh, .slice (some ⟨g5', 0, none⟩) 2 c6', .slice a3 2 c3, .int .i64 sl, .bool op] := ⟨_, rfl⟩
 refine tsk (o := _) rfl ⟨rfl, rfl⟩ (run_seg hW5 (fr_ev k4_13) (fr_ev k4_8) nb3 rfl rfl rfl rfl) ?_
 obtain ⟨fB5, nb5, ot5, z5⟩ := sgf hW5 fB3 nb3 (by omega)
 clear hW5
 have b5_1 := ot5 _ _ (by omega) b3_1
 have q16' := q13'.other ot5 (by omega) z5
 have q17' := q14'.other ot5 (by omega) z5
 have q18' := q15'.other ot5 (by omega) z5
 refine tail_value (o := _) rfl rfl rfl (v := .pointer (some ⟨(s1 0), 4, none⟩)) (by simp [go_sem, frv 16 k4_1]) ?_
 generalize hg6 : upd g4 14 (.pointer (some ⟨(s1 0), 4, none⟩)) = g6
 have k6_1 := ku hg6 1 k4_1
 have k6_11 := ku hg6 11 (ku hg4 11 (kt hg2 11 r2_8))
 have k6_14 := kt hg6 14 (upd_same _ _ _)
 obtain ⟨W7, hW7⟩ : ∃ W', W' = W5.setRow (s1 0) #[.int .i64 tab, .slice (some ⟨g1', 0, none⟩) 4 c2', .int .i64 hh, .slice (some ⟨g5', 0, none⟩) 2 c6', .slice (some ⟨g9', 0, none⟩) 2 c10', .int .i64 sl, .bool op] := ⟨_, rfl⟩
 refine tsk (o := _) rfl ⟨rfl, rfl⟩ (run_seg hW7 (fr_ev k6_14) (fr_ev k6_11) nb5 rfl rfl rfl rfl) ?_
 obtain ⟨fB7, nb7, ot7, z7⟩ := sgf hW7 fB5 nb5 (by omega)
 clear hW7
 have b7_1 := ot7 _ _ (by omega) b5_1
 have q19' := q16'.other ot7 (by omega) z7
 have q20' := q17'.other ot7 (by omega) z7
 have q21' := q18'.other ot7 (by omega) z7
 refine wpe ?_
 refine hK2 _ _ ?_
 refine wp_seq_k fun K3 hK3 => ?_
 refine ry 1 [(15, 0)] [[], [0]] (rel [is (.agg #[.int .i64 tab, .slice (some ⟨g1', 0, none⟩) 4 c2', .int .i64 hh, .slice (some ⟨g5', 0, none⟩) 2 c6', .slice (some ⟨g9', 0, none⟩) 2 c10', .int .i64 sl, .bool op])])
  ⟨fun f s W c d i j l a => opv rfl rfl (by simp [go_sem, a.e 1 k6_1, cb nb7 c 0, cb nb7 c 1, cb nb7 c 2, cb nb7 c 3, cb nb7 c 4, cb nb7 c 5, cb nb7 c 6]) rfl, trivial⟩ ?_
 intro f8 s8 W8 hB8 g8 hg8 z8
 have fB8 := hB8.f fB7
 have b8_1 := hB8.b b7_1
 have q22' := (q19'.below hB8.below)
 have q23' := (q20'.below hB8.below)
 have q24' := (q21'.below hB8.below)
 have k8_2 := kt hg8 2 (ku hg6 2 (ku hg4 2 (kt hg2 2 (kt hg1 2 r1_1))))
 have k8_15 := kt hg8 15 (hB8.is 0)
 obtain ⟨W9, hW9⟩ : ∃ W', W' = W8.setRow (s1 1) #[.int .i64 tab, .slice (some ⟨g1', 0, none⟩) 4 c2', .int .i64 hh, .slice (some ⟨g5', 0, none⟩) 2 c6', .slice (some ⟨g9', 0, none⟩) 2 c10', .int .i64 sl, .bool op] := ⟨_, rfl⟩
 refine tsk (o := _) rfl ⟨rfl, rfl⟩ (run_seg hW9 (fr_ev k8_2) (fr_ev k8_15) b8_1 rfl rfl rfl rfl) ?_
 obtain ⟨fB9, nb9, ot9, z9⟩ := sgf hW9 fB8 b8_1 (by omega)
 clear hW9
 have q25' := q22'.other ot9 (by omega) z9
 have q26' := q23'.other ot9 (by omega) z9
 have q27' := q24'.other ot9 (by omega) z9
 refine wpe ?_
 refine hK3 _ _ ?_
 refine wp_ret ?_
 refine leave_gen (v := .agg #[.int .i64 tab, .slice (some ⟨g1', 0, none⟩) 4 c2', .int .i64 hh, .slice (some ⟨g5', 0, none⟩) 2 c6', .slice (some ⟨g9', 0, none⟩) 2 c10', .int .i64 sl, .bool op]) (.inr rfl) (by simp [results, Try.results19, go_sem, frv 16 k8_2, cl nb9 0, cl nb9 1, cl nb9 2, cl nb9 3, cl nb9 4, cl nb9 5, cl nb9 6]) ?_
 exact ⟨_, rfl, ⟨_, _, _, _, _, _, rfl, q25', q26', q27', by omega, by omega, by omega⟩, fB9⟩
open Go.RowKit
open Go.RowKit
open Go.RowKit
open Go.RowKit
open Go.RowKit
open Go.RowKit
open Go.RowKit
theorem panels_at {b : Bl} (h : checkErr b = 0) {i : Nat} (hi : i < 4) : i < b.panels.length := by
  obtain ⟨⟨l1, -, -⟩, -⟩ := good_nums h
  omega
theorem play_len {b d : Bl} {s t : Sp} (h : checkErr b = 0) (k : checkErr d = 0) : (playL b d s t).length = 4 := by
  obtain ⟨⟨l1, -, -⟩, -⟩ := good_nums h
  obtain ⟨⟨l2, -, -⟩, -⟩ := good_nums k
  simp [playL, l1, l2]
theorem play_nth {b d : Bl} {x1 y1 x2 y2 : Int} (h : checkErr b = 0) (k : checkErr d = 0) {i : Nat} (hi : i < 4) : nthP (playL b d (x1, y1) (x2, y2)) i = (1000 * (b.panels.getD i 0 - d.panels.getD i 0) - y1 - y2, 1000 * (b.panels.getD i 0 - d.panels.getD i 0) - x1 - x2) := by
  have hb := panels_at h hi
  have hd := panels_at k hi
  simp only [nthP, playL, List.getD_eq_getElem?_getD, List.getElem?_zipWith, List.getElem?_eq_getElem hb, List.getElem?_eq_getElem hd, Option.getD_some]
theorem chk_e5 {b d : Bl} {s t : Sp} (h : checkErr b = 0) (h2 : checkErr d = 0) (h3 : isSpan s 1 10000 = true) (h4 : isSpan t 1 10000 = true) : checkedErr [b, d] [s, t] = 0 := by simp [checkedErr, h, h2, h3, h4]
theorem span_in {lo hi : Int} (h1 : 1 ≤ lo) (h2 : lo ≤ hi) (h3 : hi ≤ 10000) : isSpan (lo, hi) 1 10000 = true := isSpan_iff.2 ⟨h1, h2, h3⟩
theorem long3 {x y z : Int} (hx : 0 ≤ x ∧ x ≤ 3000) (hy : 0 ≤ y ∧ y ≤ 3000) (hz : 0 ≤ z ∧ z ≤ 3000) : areLong 0 [x, y, z] = true := by
  simp [areLong, within, hx, hy, hz]
theorem holds_in {u : Value} {b : Bl} {lo hi : Int} {a : Option Addr} {c : Nat} {x y z : Int} {s p : Bool} (w : World) (hB : Blk w u b) (hI : Ii w a 3 c [x, y, z]) (hck : checkErr b = 0) (h1 : 1 ≤ lo) (h2 : lo ≤ hi) (h3 : hi ≤ 10000) (hx : 0 ≤ x ∧ x ≤ 3000) (hy : 0 ≤ y ∧ y ≤ 3000) (hz : 0 ≤ z ∧ z ≤ 3000) (hs : insideB b hi x y z = s) (hp : insideB b lo x y z = p) :
    Calls Try.prog 21 #[u, .agg #[.int .i64 lo, .int .i64 hi], .slice a 3 c] w (fun e w' => e = .returned (.tuple #[.bool s, .bool p, .int .i64 0]) ∧ Below w.heap.size w w') := by
  refine (holds_any u b lo hi a 3 c [x, y, z] w hB hI).mono fun e w' h => ?_
  have e1 : e = .returned (.tuple #[.bool (if holdsErr b (lo, hi) [x, y, z] = 0 then fitsOf b hi [x, y, z] else false), .bool (if holdsErr b (lo, hi) [x, y, z] = 0 then fitsOf b lo [x, y, z] else false), .int .i64 (holdsErr b (lo, hi) [x, y, z])]) := h.1
  rw [holds_e5 hck (span_in h1 h2 h3) rfl (long3 hx hy hz), if_pos rfl, if_pos rfl, ← inside_fits, ← inside_fits, hs, hp] at e1
  exact ⟨e1, h.2⟩
theorem play_in {u v : Value} {b d : Bl} {x1 y1 x2 y2 : Int} {L : List Sp} (w : World) (hB : Blk w u b) (hD : Blk w v d) (hb : checkErr b = 0) (hd : checkErr d = 0) (h1 : 1 ≤ x1) (h2 : x1 ≤ y1) (h3 : y1 ≤ 10000) (h4 : 1 ≤ x2) (h5 : x2 ≤ y2) (h6 : y2 ≤ 10000) (hL : playL b d (x1, y1) (x2, y2) = L) :
    Calls Try.prog 20 #[u, v, .agg #[.int .i64 x1, .int .i64 y1], .agg #[.int .i64 x2, .int .i64 y2]] w (IsPpP L 0 w) := by
  have hE := chk_e5 hb hd (span_in h1 h2 h3) (span_in h4 h5 h6)
  refine (play_any u v b d x1 y1 x2 y2 w hB hD).mono fun e w' h => ?_
  obtain ⟨a, n, c, e1, h1, h2⟩ := h
  rw [hE] at e1
  rw [if_pos hE, hL] at h1
  exact ⟨_, e1, isPp_of h1, h2⟩
open Go.RowKit
end Go.Proofs.Ytolnpbpeifpbjaa
