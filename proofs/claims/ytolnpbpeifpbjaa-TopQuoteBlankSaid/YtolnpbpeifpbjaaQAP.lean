/- Part of the proof: what the claim leans on. -/
import Derived.Test.YtolnpbpeifpbjaaQAO
import Derived.Test.YtolnpbpeifpbjaaQAG
import Derived.Test.YtolnpbpeifpbjaaQAC
set_option linter.unusedSimpArgs false
set_option linter.unusedVariables false
namespace Go.Proofs.Ytolnpbpeifpbjaa
open Go.RowKit
/-- The quote that four bytes make, with its step's block. -/
def QuO (q : Qu) (v : Value) (W : World) : Prop := ∃ bs cs, v = .agg #[.int .i64 q.ar, .int .i64 q.bo, .int .i64 q.wa, .int .i64 q.tl, .int .i64 q.se, .int .i64 q.ru, .int .i64 q.wo, .int .i64 q.pl, .int .i64 q.fr, .int .i64 q.ma, .slice (some ⟨bs, 0, none⟩) (1) (cs)] ∧ W.heap[bs]? = some (.cells #[.int .i64 q.sf, .int .i64 q.so] 82 (0, 0))
theorem step_of {W : World} {b : Nat} {q : Qu} (h : W.heap[b]? = some (.cells #[.int .i64 q.sf, .int .i64 q.so] 82 (0, 0))) : StepR W b 0 q := ⟨lt_of_blk h, Joins.cell_of_block h 0, Joins.cell_of_block h 1⟩
theorem QuO.below {q : Qu} {v : Value} {W W' : World} (h : QuO q v W) (hb : Below W.heap.size W W') : QuO q v W' := by
  obtain ⟨b, c, e, h⟩ := h; exact ⟨b, c, e, blk_below h hb⟩
theorem QuV.below {q : Qu} {v : Value} {W W' : World} (h : QuV q v W) (hb : Below W.heap.size W W') : QuV q v W' := by
  obtain ⟨b, o, c, e, h⟩ := h; exact ⟨b, o, c, e, h.below hb⟩
/-- What is said of a quote's box. -/
def quG (q : Qu) (cs : Array Value) (W : World) : Prop := QuO q (.agg cs) W
theorem quG_b {q : Qu} : GoodB (quG q) := fun _ _ _ hb h => QuO.below h hb
theorem quG_s {q : Qu} {cs : Array Value} {W W' : World} {b : Nat} (hot : ∀ k x, k ≠ b → W.heap[k]? = some x → W'.heap[k]? = some x) (hb : ∃ cs0, W.heap[b]? = some (.cells cs0 32 (0, 0))) (h : quG q cs W) : quG q cs W' := by
  obtain ⟨cs0, hb⟩ := hb
  obtain ⟨g, c, e, h⟩ := h
  refine ⟨g, c, e, hot g _ ?_ h⟩
  rintro rfl
  rw [h] at hb
  simp only [Option.some.injEq, Obj.cells.injEq] at hb
  exact absurd hb.2.1 (by decide)
theorem QuO.leT {B : Nat} {G : Array Value → World → Prop} {q : Qu} {v : Value} {W W' : World} (h : QuO q v W) (hb : LeT B 32 G W W') : QuO q v W' := by
  obtain ⟨g, c, e, h⟩ := h
  exact ⟨g, c, e, hb.block g _ h (.inr fun cs e => by simp only [Obj.cells.injEq] at e; exact absurd e.2.1 (by decide))⟩
/-- The example's quote. -/
def quP : Qu := ⟨10000, 20000, 100, 5000, 300, 1000, 900, 400, 50, 200, 1000, 100⟩
theorem quP_in : QuIn quP := ⟨by decide, by decide, by decide, by decide, by decide, by decide, by decide, by decide, by decide, by decide, by decide, by decide⟩
theorem quP_most : MostAt quP (priceQ quP 999) 1123 := by
  refine .inl ⟨by decide, fun x h1 h2 => ⟨fun h => ?_, fun h => ?_⟩⟩
  · rcases Int.lt_or_le 1123 x with h' | h'
    · have h3 := price_mono quP_in (a := 10000) (b := 10000) (x := 1124) (y := x) (by decide) (by decide) (by decide) (by decide) (by omega) h2 (off_hi (by decide) h1)
      have h4 : priceQ quP 999 < priceQ quP 1124 := by decide
      have h5 : priceQ quP 1124 ≤ priceQ quP x := h3
      omega
    · exact h'
  · have h3 := price_mono quP_in (a := 10000) (b := 10000) (x := x) (y := 1123) (by decide) (by decide) (by decide) (show 1 ≤ x by have : (1000 : Int) ≤ x := h1; omega) h (by decide) (off_hi h1 (by decide))
    have h4 : priceQ quP 1123 ≤ priceQ quP 999 := by decide
    exact Int.le_trans h3 h4
theorem quB_in {a b c d : Int} (ga : 0 ≤ a ∧ a ≤ 255) (gb : 0 ≤ b ∧ b ≤ 255) (gc : 0 ≤ c ∧ c ≤ 255) (gd : 0 ≤ d ∧ d ≤ 255) : QuIn (quB a b c d) :=
  ⟨show 1 ≤ 1 + a ∧ 1 + a ≤ 100000 by omega, show 0 ≤ 100 * b ∧ 100 * b ≤ 100000 by omega, by show (0 : Int) ≤ 0 ∧ (0 : Int) ≤ 500; omega, show 0 ≤ 10 * c ∧ 10 * c ≤ 1000000 by omega, by show (0 : Int) ≤ 0 ∧ (0 : Int) ≤ 1000000; omega, show 1 ≤ 1 + d ∧ 1 + d ≤ 100000 by omega, show 0 ≤ 7 * d ∧ 7 * d ≤ 1000000 by omega, show 1 ≤ 1 + c ∧ 1 + c ≤ 100000 by omega, by show (0 : Int) ≤ 0 ∧ (0 : Int) ≤ 1000000; omega, show 0 ≤ 3 * a ∧ 3 * a ≤ 1000 by omega, show 1 ≤ 1 + b ∧ 1 + b ≤ 100000 by omega, show 0 ≤ c ∧ c ≤ 900 by omega⟩
section
variable {S : Nat → Prop} {Ps : List (World → Prop)}
end
set_option maxRecDepth 100000 in
set_option maxHeartbeats 8000000 in
theorem pubQuote_own (a b c d : Int) (w : World) (ga : 0 ≤ a ∧ a ≤ 255) (gb : 0 ≤ b ∧ b ≤ 255) (gc : 0 ≤ c ∧ c ≤ 255) (gd : 0 ≤ d ∧ d ≤ 255) :
  Calls Try.prog 5 #[.agg #[.int .u8 a, .int .u8 b, .int .u8 c, .int .u8 d]] w (fun e w' => ∃ v, e = .returned v ∧ QuO (quB a b c d) v w' ∧ Below w.heap.size w w') := by
 refine calls_fr Try.func5 Try.ntmps5 rfl rfl fun g hg => ?_
 have k0 : g 0 = .agg #[.int .u8 a, .int .u8 b, .int .u8 c, .int .u8 d] := hg 0
 clear hg
 have fB0 : Below w.heap.size w w := Below.refl _ _
 refine wp_seq_k fun K1 hK1 => ?_
 refine region_dk 2 [(1, 0), (2, 1)] [[], []] (rel [bx 0 #[.int .u8 a, .int .u8 b, .int .u8 c, .int .u8 d] 22,
   bx 1 #[.int .i64 0, .int .i64 0, .int .i64 0, .int .i64 0, .int .i64 0, .int .i64 0, .int .i64 0, .int .i64 0, .int .i64 0, .int .i64 0, .slice (none) (0) (0)] 32])
  ⟨bx_k, bx_k, trivial⟩
  ⟨fun f s W i j k l m h => opb rfl rfl (by simp [go_sem, h.e 0 k0]),
  fun f s W i j k l m h => opb rfl rfl (by simp [go_sem]), trivial⟩ ?_
 intro f1 s1 W1 hB1 g1 hg1
 have fB1 := hB1.f fB0
 have z1 := hB1.below.size
 obtain ⟨r1_0, br1_0⟩ := hB1.is 0
 have lr1_0 := hB1.lr 0 br1_0
 obtain ⟨r1_1, br1_1⟩ := hB1.is 1
 have lr1_1 := hB1.lr 1 br1_1
 have ne1_0_1 := hB1.nb 0 1
 refine hK1 _ _ ?_
 have k1_1 := kt hg1 1 r1_0
 have k1_2 := kt hg1 2 r1_1
 refine wp_seq_k fun K2 hK2 => ?_
 refine region_dk 38 [(3, 0), (4, 1), (5, 2), (6, 3), (7, 4), (8, 5), (9, 6), (10, 7), (11, 8), (12, 9), (13, 10), (14, 11), (15, 12), (16, 13), (17, 14), (18, 15), (19, 16), (20, 17), (21, 18), (22, 19), (23, 20), (24, 21), (25, 22), (26, 23), (27, 24), (28, 25), (29, 26), (30, 27), (31, 28), (32, 29), (33, 30), (34, 31), (35, 32), (36, 33), (37, 34), (38, 35), (39, 36), (40, 37)] [[], [0], [0, 1], [0, 1, 2], [], [4], [4, 5], [4, 5, 6], [], [8], [8, 9], [8, 9, 10], [], [12], [12, 13], [12, 13, 14], [], [16], [16, 17], [16, 17, 18], [], [20], [20, 21], [20, 21, 22], [], [24], [24, 25], [24, 25, 26], [], [28], [28, 29], [28, 29, 30], [], [32], [32, 33], [28, 29, 30, 31, 32, 33, 34], [28, 29, 30, 31, 32, 33, 34, 35], [0, 1, 2, 3, 4, 5, 6, 7, 8, 9, 10, 11, 12, 13, 14, 15, 16, 17, 18, 19, 20, 21, 22, 23, 24, 25, 26, 27, 28, 29, 30, 31, 32, 33, 34, 35, 36], [0, 1, 2, 3, 4, 5, 6, 7, 8, 9, 10, 11, 12, 13, 14, 15, 16, 17, 18, 19, 20, 21, 22, 23, 24, 25, 26, 27, 28, 29, 30, 31, 32, 33, 34, 35, 36, 37]] (rel [is (.pointer (some ⟨(s1 0), 0, none⟩)),
   is (.int .u8 a),
   is (.int .i64 a),
   is (.int .i64 (1 + a)),
   is (.pointer (some ⟨(s1 0), 1, none⟩)),
   is (.int .u8 b),
   is (.int .i64 b),
   is (.int .i64 (100 * b)),
   is (.pointer (some ⟨(s1 0), 2, none⟩)),
   is (.int .u8 c),
   is (.int .i64 c),
   is (.int .i64 (10 * c)),
   is (.pointer (some ⟨(s1 0), 3, none⟩)),
   is (.int .u8 d),
   is (.int .i64 d),
   is (.int .i64 (1 + d)),
   is (.pointer (some ⟨(s1 0), 3, none⟩)),
   is (.int .u8 d),
   is (.int .i64 d),
   is (.int .i64 (7 * d)),
   is (.pointer (some ⟨(s1 0), 2, none⟩)),
   is (.int .u8 c),
   is (.int .i64 c),
   is (.int .i64 (1 + c)),
   is (.pointer (some ⟨(s1 0), 0, none⟩)),
   is (.int .u8 a),
   is (.int .i64 a),
   is (.int .i64 (3 * a)),
   is (.pointer (some ⟨(s1 0), 1, none⟩)),
   is (.int .u8 b),
   is (.int .i64 b),
   is (.int .i64 (1 + b)),
   is (.pointer (some ⟨(s1 0), 2, none⟩)),
   is (.int .u8 c),
   is (.int .i64 c),
   is (.agg #[.int .i64 (1 + b), .int .i64 c]),
   row 36 1 #[.int .i64 (1 + b), .int .i64 c] 82,
   isS fun s => .agg #[.int .i64 (1 + a), .int .i64 (100 * b), .int .i64 0, .int .i64 (10 * c), .int .i64 0, .int .i64 (1 + d), .int .i64 (7 * d), .int .i64 (1 + c), .int .i64 0, .int .i64 (3 * a), .slice (some ⟨(s 36), 0, none⟩) (1) (1)]])
  ⟨is_k, is_k, is_k, is_k, is_k, is_k, is_k, is_k, is_k, is_k, is_k, is_k, is_k, is_k, is_k, is_k, is_k, is_k, is_k, is_k, is_k, is_k, is_k, is_k, is_k, is_k, is_k, is_k, is_k, is_k, is_k, is_k, is_k, is_k, is_k, is_k, row_k, isS_k fun s s' e => by rw [e 36 (by simp)], trivial⟩
  ⟨fun f s W i j k l m h => opv rfl rfl (by simp [go_sem, h.e 1 k1_1]) rfl,
  fun f s W i j k l m h => opv rfl rfl (by simp [go_sem, h.e 3 (j 0 rfl), cb br1_0 i 0]) rfl,
  fun f s W i j k l m h => by have cv_ := IntWalk.i64_in a (by omega); exact opv rfl rfl (by simp [go_sem, h.e 4 (j 1 rfl), cv_]) rfl,
  fun f s W i j k l m h => opv rfl rfl (by simp [go_sem, h.e 5 (j 2 rfl), IntWalk.i64_in (1 + a) (by omega)]) rfl,
  fun f s W i j k l m h => opv rfl rfl (by simp [go_sem, h.e 1 k1_1]) rfl,
  fun f s W i j k l m h => opv rfl rfl (by simp [go_sem, h.e 7 (j 4 rfl), cb br1_0 i 1]) rfl,
  fun f s W i j k l m h => by have cv_ := IntWalk.i64_in b (by omega); exact opv rfl rfl (by simp [go_sem, h.e 8 (j 5 rfl), cv_]) rfl,
  fun f s W i j k l m h => opv rfl rfl (by simp [go_sem, h.e 9 (j 6 rfl), IntWalk.i64_in (100 * b) (by omega)]) rfl,
  fun f s W i j k l m h => opv rfl rfl (by simp [go_sem, h.e 1 k1_1]) rfl,
  fun f s W i j k l m h => opv rfl rfl (by simp [go_sem, h.e 11 (j 8 rfl), cb br1_0 i 2]) rfl,
  fun f s W i j k l m h => by have cv_ := IntWalk.i64_in c (by omega); exact opv rfl rfl (by simp [go_sem, h.e 12 (j 9 rfl), cv_]) rfl,
  fun f s W i j k l m h => opv rfl rfl (by simp [go_sem, h.e 13 (j 10 rfl), IntWalk.i64_in (10 * c) (by omega)]) rfl,
  fun f s W i j k l m h => opv rfl rfl (by simp [go_sem, h.e 1 k1_1]) rfl,
  fun f s W i j k l m h => opv rfl rfl (by simp [go_sem, h.e 15 (j 12 rfl), cb br1_0 i 3]) rfl,
  fun f s W i j k l m h => by have cv_ := IntWalk.i64_in d (by omega); exact opv rfl rfl (by simp [go_sem, h.e 16 (j 13 rfl), cv_]) rfl,
  fun f s W i j k l m h => opv rfl rfl (by simp [go_sem, h.e 17 (j 14 rfl), IntWalk.i64_in (1 + d) (by omega)]) rfl,
  fun f s W i j k l m h => opv rfl rfl (by simp [go_sem, h.e 1 k1_1]) rfl,
  fun f s W i j k l m h => opv rfl rfl (by simp [go_sem, h.e 19 (j 16 rfl), cb br1_0 i 3]) rfl,
  fun f s W i j k l m h => by have cv_ := IntWalk.i64_in d (by omega); exact opv rfl rfl (by simp [go_sem, h.e 20 (j 17 rfl), cv_]) rfl,
  fun f s W i j k l m h => opv rfl rfl (by simp [go_sem, h.e 21 (j 18 rfl), IntWalk.i64_in (7 * d) (by omega)]) rfl,
  fun f s W i j k l m h => opv rfl rfl (by simp [go_sem, h.e 1 k1_1]) rfl,
  fun f s W i j k l m h => opv rfl rfl (by simp [go_sem, h.e 23 (j 20 rfl), cb br1_0 i 2]) rfl,
  fun f s W i j k l m h => by have cv_ := IntWalk.i64_in c (by omega); exact opv rfl rfl (by simp [go_sem, h.e 24 (j 21 rfl), cv_]) rfl,
  fun f s W i j k l m h => opv rfl rfl (by simp [go_sem, h.e 25 (j 22 rfl), IntWalk.i64_in (1 + c) (by omega)]) rfl,
  fun f s W i j k l m h => opv rfl rfl (by simp [go_sem, h.e 1 k1_1]) rfl,
  fun f s W i j k l m h => opv rfl rfl (by simp [go_sem, h.e 27 (j 24 rfl), cb br1_0 i 0]) rfl,
  fun f s W i j k l m h => by have cv_ := IntWalk.i64_in a (by omega); exact opv rfl rfl (by simp [go_sem, h.e 28 (j 25 rfl), cv_]) rfl,
  fun f s W i j k l m h => opv rfl rfl (by simp [go_sem, h.e 29 (j 26 rfl), IntWalk.i64_in (3 * a) (by omega)]) rfl,
  fun f s W i j k l m h => opv rfl rfl (by simp [go_sem, h.e 1 k1_1]) rfl,
  fun f s W i j k l m h => opv rfl rfl (by simp [go_sem, h.e 31 (j 28 rfl), cb br1_0 i 1]) rfl,
  fun f s W i j k l m h => by have cv_ := IntWalk.i64_in b (by omega); exact opv rfl rfl (by simp [go_sem, h.e 32 (j 29 rfl), cv_]) rfl,
  fun f s W i j k l m h => opv rfl rfl (by simp [go_sem, h.e 33 (j 30 rfl), IntWalk.i64_in (1 + b) (by omega)]) rfl,
  fun f s W i j k l m h => opv rfl rfl (by simp [go_sem, h.e 1 k1_1]) rfl,
  fun f s W i j k l m h => opv rfl rfl (by simp [go_sem, h.e 35 (j 32 rfl), cb br1_0 i 2]) rfl,
  fun f s W i j k l m h => by have cv_ := IntWalk.i64_in c (by omega); exact opv rfl rfl (by simp [go_sem, h.e 36 (j 33 rfl), cv_]) rfl,
  fun f s W i j k l m h => opv rfl rfl (by simp [go_sem, h.e 34 (j 31 rfl), h.e 37 (j 34 rfl)]) rfl,
  fun f s W i j k l m h => opr rfl rfl (by simp [go_sem, h.e 38 (j 35 rfl)]),
  fun f s W i j k l m h => opv rfl rfl (by simp [go_sem, h.e 6 (j 3 rfl), h.e 10 (j 7 rfl), h.e 14 (j 11 rfl), h.e 18 (j 15 rfl), h.e 22 (j 19 rfl), h.e 26 (j 23 rfl), h.e 30 (j 27 rfl), h.e 39 (j 36 rfl).1, upd]) rfl, trivial⟩ ?_
 intro f2 s2 W2 hB2 g2 hg2
 have fB2 := hB2.f fB1
 have z2 := hB2.below.size
 have b2_0 := hB2.b br1_0
 have b2_1 := hB2.b br1_1
 obtain ⟨r2_36, br2_36⟩ := hB2.is 36
 have lr2_36 := hB2.lr 36 br2_36
 have k2_2 := kt hg2 2 k1_2
 have k2_40 := kt hg2 40 (hB2.is 37)
 obtain ⟨W3, hW3⟩ : ∃ W', W' = W2.setRow (s1 1) #[.int .i64 (1 + a), .int .i64 (100 * b), .int .i64 0, .int .i64 (10 * c), .int .i64 0, .int .i64 (1 + d), .int .i64 (7 * d), .int .i64 (1 + c), .int .i64 0, .int .i64 (3 * a), .slice (some ⟨(s2 36), 0, none⟩) (1) (1)] := ⟨_, rfl⟩
 refine tail_skip (o := _) rfl ⟨rfl, rfl⟩ (run_seg hW3 (fr_ev k2_2) (fr_ev k2_40) b2_1 rfl rfl rfl rfl) ?_
 obtain ⟨fB3, nb3, ot3, z3⟩ := seg_facts hW3 fB2 b2_1 (by omega)
 clear hW3
 have b3_0 := ot3 _ _ (by omega) b2_0
 have b3_2 := ot3 _ _ (by omega) br2_36
 refine wpOps_end ?_
 refine hK2 _ _ ?_
 refine wp_ret ?_
 refine leave_gen (v := .agg #[.int .i64 (1 + a), .int .i64 (100 * b), .int .i64 0, .int .i64 (10 * c), .int .i64 0, .int .i64 (1 + d), .int .i64 (7 * d), .int .i64 (1 + c), .int .i64 0, .int .i64 (3 * a), .slice (some ⟨(s2 36), 0, none⟩) (1) (1)]) (.inr rfl) (by simp [results, Try.results5, go_sem, frv 41 k2_2, cl nb3 0, cl nb3 1, cl nb3 2, cl nb3 3, cl nb3 4, cl nb3 5, cl nb3 6, cl nb3 7, cl nb3 8, cl nb3 9, cl nb3 10]) ?_
 exact ⟨_, rfl, ⟨_, _, rfl, b3_2⟩, fB3⟩
set_option maxRecDepth 100000 in
set_option maxHeartbeats 8000000 in
theorem pubPrice_yes (w : World) :
  Calls Try.prog 13 #[] w (fun e w' => e = .returned (.bool true) ∧ Below w.heap.size w w') := by
 have hpr_ : ((priceQ quP 500) == 20220) = true := by decide
 refine calls_fr Try.func13 Try.ntmps13 rfl rfl fun g hg => ?_
 clear hg
 have fB0 : Below w.heap.size w w := Below.refl _ _
 refine wp_seq_k fun K1 hK1 => ?_
 refine region_dk 1 [(0, 0)] [[]] (rel [is (.bool false)])
  ⟨is_k, trivial⟩
  ⟨fun f s W i j k l m a => opv rfl rfl (by simp [go_sem]) rfl, trivial⟩ ?_
 intro f1 s1 W1 hB1 g1 hg1
 have fB1 := hB1.f fB0
 have z1 := hB1.below.size
 refine hK1 _ _ ?_
 have k1_0 := kt hg1 0 (hB1.is 0)
 refine wp_seq_k fun K2 hK2 => ?_
 refine region_dk 4 [(7, 0), (8, 1), (9, 2), (1, 3)] [[], [0], [0, 1], [], [0, 1, 2, 3]] (rel [is (.agg #[.int .i64 1000, .int .i64 100]),
   row 1 1 #[.int .i64 1000, .int .i64 100] 82,
   isS fun s => .agg #[.int .i64 10000, .int .i64 20000, .int .i64 100, .int .i64 5000, .int .i64 300, .int .i64 1000, .int .i64 900, .int .i64 400, .int .i64 50, .int .i64 200, .slice (some ⟨(s 1), 0, none⟩) (1) (1)],
   bx 3 #[.int .i64 0, .int .i64 0, .int .i64 0, .int .i64 0, .int .i64 0, .int .i64 0, .int .i64 0, .int .i64 0, .int .i64 0, .int .i64 0, .slice (none) (0) (0)] 32])
  ⟨is_k, row_k, isS_k fun s s' e => by rw [e 1 (by simp)], bx_k, trivial⟩
  ⟨fun f s W i j k l m a => opv rfl rfl (by simp [go_sem]) rfl,
  fun f s W i j k l m a => opr rfl rfl (by simp [go_sem, a.e 7 (j 0 rfl)]),
  fun f s W i j k l m a => opv rfl rfl (by simp [go_sem, a.e 8 (j 1 rfl).1, upd]) rfl,
  fun f s W i j k l m a => opb rfl rfl (by simp [go_sem]), trivial⟩ ?_
 intro f2 s2 W2 hB2 g2 hg2
 have fB2 := hB2.f fB1
 have z2 := hB2.below.size
 obtain ⟨r2_1, br2_1⟩ := hB2.is 1
 have lr2_1 := hB2.lr 1 br2_1
 obtain ⟨r2_3, br2_3⟩ := hB2.is 3
 have lr2_3 := hB2.lr 3 br2_3
 have ne2_1_3 := hB2.nb 1 3
 have k2_0 := kt hg2 0 k1_0
 have k2_9 := kt hg2 9 (hB2.is 2)
 have k2_1 := kt hg2 1 r2_3
 obtain ⟨W3, hW3⟩ : ∃ W', W' = W2.setRow (s2 3) #[.int .i64 10000, .int .i64 20000, .int .i64 100, .int .i64 5000, .int .i64 300, .int .i64 1000, .int .i64 900, .int .i64 400, .int .i64 50, .int .i64 200, .slice (some ⟨(s2 1), 0, none⟩) (1) (1)] := ⟨_, rfl⟩
 refine tail_skip (o := _) rfl ⟨rfl, rfl⟩ (run_seg hW3 (fr_ev k2_1) (fr_ev k2_9) br2_3 rfl rfl rfl rfl) ?_
 obtain ⟨fB3, nb3, ot3, z3⟩ := seg_facts hW3 fB2 br2_3 (by omega)
 clear hW3
 have b3_0 := ot3 _ _ (by omega) br2_1
 refine wpOps_end ?_
 refine hK2 _ _ ?_
 refine wp_seq_k fun K3 hK3 => ?_
 refine region_dk 7 [(11, 0), (12, 1), (10, 2), (13, 3), (14, 4), (15, 5), (2, 6), (3, 8), (4, 9)] [[], [0], [0, 1], [0, 1, 2], [0, 1, 2], [0, 1, 2], [], [0, 1, 2, 3, 6], [0, 1, 2, 3, 4, 6, 7], [0, 1, 2, 3, 4, 5, 6, 7, 8]] (rel [is (.agg #[.int .i64 10000, .int .i64 20000, .int .i64 100, .int .i64 5000, .int .i64 300, .int .i64 1000, .int .i64 900, .int .i64 400, .int .i64 50, .int .i64 200, .slice (some ⟨(s2 1), 0, none⟩) (1) (1)]),
   is (.tuple #[.agg #[.int .i64 (boardQ quP 500), .int .i64 quP.tl, .int .i64 (setQ quP 500), .int .i64 (workQ quP 500), .int .i64 (frQ quP 500)], .int .i64 (priceQ quP 500), .int .i64 0]),
   is (.tuple #[.agg #[.int .i64 (boardQ quP 500), .int .i64 quP.tl, .int .i64 (setQ quP 500), .int .i64 (workQ quP 500), .int .i64 (frQ quP 500)], .int .i64 (priceQ quP 500), .int .i64 0]),
   is (.agg #[.int .i64 (boardQ quP 500), .int .i64 quP.tl, .int .i64 (setQ quP 500), .int .i64 (workQ quP 500), .int .i64 (frQ quP 500)]),
   is (.int .i64 (priceQ quP 500)),
   is (.int .i64 0),
   bx 6 #[.int .i64 0, .int .i64 0, .int .i64 0, .int .i64 0, .int .i64 0] 44])
  ⟨is_k, is_k, is_k, is_k, is_k, is_k, bx_k, trivial⟩
  ⟨fun f s W i j k l m a => opl rfl rfl rfl (a.v 1 k2_1) (blk_below nb3 i) Try.underlying32 rfl (by kernel_rfl) rfl,
  fun f s W i j k l m a => opc (args := #[.agg #[.int .i64 10000, .int .i64 20000, .int .i64 100, .int .i64 5000, .int .i64 300, .int .i64 1000, .int .i64 900, .int .i64 400, .int .i64 50, .int .i64 200, .slice (some ⟨(s2 1), 0, none⟩) (1) (1)], .int .i64 500]) rfl rfl (by simp [go_sem, a.e 11 (j 0 rfl)]) ((Quote_ok quP (s2 1) 0 1 500 W (step_of (blk_below b3_0 i)) quP_in (by decide) : Calls _ _ #[.agg #[.int .i64 10000, .int .i64 20000, .int .i64 100, .int .i64 5000, .int .i64 300, .int .i64 1000, .int .i64 900, .int .i64 400, .int .i64 50, .int .i64 200, .slice (some ⟨(s2 1), 0, none⟩) (1) (1)], .int .i64 500] W _)),
  fun f s W i j k l m a => opv rfl rfl (by simp [go_sem, a.e 12 (j 1 rfl)]) rfl,
  fun f s W i j k l m a => opv rfl rfl (by simp [go_sem, a.e 10 (j 2 rfl)]) rfl,
  fun f s W i j k l m a => opv rfl rfl (by simp [go_sem, a.e 10 (j 2 rfl)]) rfl,
  fun f s W i j k l m a => opv rfl rfl (by simp [go_sem, a.e 10 (j 2 rfl)]) rfl,
  fun f s W i j k l m a => opb rfl rfl (by simp [go_sem]), trivial⟩ ?_
 intro f4 s4 W4 hB4 g4 hg4
 have fB4 := hB4.f fB3
 have z4 := hB4.below.size
 have b4_0 := hB4.b b3_0
 have b4_1 := hB4.b nb3
 obtain ⟨r4_6, br4_6⟩ := hB4.is 6
 have lr4_6 := hB4.lr 6 br4_6
 have k4_0 := kt hg4 0 k2_0
 have k4_1 := kt hg4 1 k2_1
 have k4_13 := kt hg4 13 (hB4.is 3)
 have k4_14 := kt hg4 14 (hB4.is 4)
 have k4_15 := kt hg4 15 (hB4.is 5)
 have k4_2 := kt hg4 2 r4_6
 obtain ⟨W5, hW5⟩ : ∃ W', W' = W4.setRow (s4 6) #[.int .i64 (boardQ quP 500), .int .i64 quP.tl, .int .i64 (setQ quP 500), .int .i64 (workQ quP 500), .int .i64 (frQ quP 500)] := ⟨_, rfl⟩
 refine tail_skip (o := _) rfl ⟨rfl, rfl⟩ (run_seg hW5 (fr_ev k4_2) (fr_ev k4_13) br4_6 rfl rfl rfl rfl) ?_
 obtain ⟨fB5, nb5, ot5, z5⟩ := seg_facts hW5 fB4 br4_6 (by omega)
 clear hW5
 have b5_0 := ot5 _ _ (by omega) b4_0
 have b5_1 := ot5 _ _ (by omega) b4_1
 refine tail_value (o := _) rfl rfl rfl (v := .int .i64 (priceQ quP 500)) (by simp [go_sem, frv 35 k4_14]) ?_
 generalize hg6 : upd g4 3 (.int .i64 (priceQ quP 500)) = g6
 have k6_0 := ku hg6 0 k4_0
 have k6_1 := ku hg6 1 k4_1
 have k6_15 := ku hg6 15 k4_15
 have k6_3 := kt hg6 3 (upd_same _ _ _)
 refine tail_value (o := _) rfl rfl rfl (v := .int .i64 0) (by simp [go_sem, frv 35 k6_15]) ?_
 generalize hg7 : upd g6 4 (.int .i64 0) = g7
 have k7_0 := ku hg7 0 k6_0
 have k7_1 := ku hg7 1 k6_1
 have k7_3 := ku hg7 3 k6_3
 have k7_4 := kt hg7 4 (upd_same _ _ _)
 refine wpOps_end ?_
 refine hK3 _ _ ?_
 refine wp_seq_k fun K4 hK4 => ?_
 refine region_dk 7 [(17, 0), (18, 1), (16, 2), (19, 3), (20, 4), (5, 5), (6, 6)] [[], [0], [0, 1], [0, 1, 2], [0, 1, 2], [0, 1, 2, 3], [0, 1, 2, 3, 4, 5]] (rel [is (.agg #[.int .i64 10000, .int .i64 20000, .int .i64 100, .int .i64 5000, .int .i64 300, .int .i64 1000, .int .i64 900, .int .i64 400, .int .i64 50, .int .i64 200, .slice (some ⟨(s2 1), 0, none⟩) (1) (1)]),
   is (.tuple #[.int .i64 1123, .int .i64 0]),
   is (.tuple #[.int .i64 1123, .int .i64 0]),
   is (.int .i64 1123),
   is (.int .i64 0),
   is (.int .i64 1123),
   is (.int .i64 0)])
  ⟨is_k, is_k, is_k, is_k, is_k, is_k, is_k, trivial⟩
  ⟨fun f s W i j k l m a => opl rfl rfl rfl (a.v 1 k7_1) (blk_below b5_1 i) Try.underlying32 rfl (by kernel_rfl) rfl,
  fun f s W i j k l m a => opc (args := #[.agg #[.int .i64 10000, .int .i64 20000, .int .i64 100, .int .i64 5000, .int .i64 300, .int .i64 1000, .int .i64 900, .int .i64 400, .int .i64 50, .int .i64 200, .slice (some ⟨(s2 1), 0, none⟩) (1) (1)], .int .i64 999]) rfl rfl (by simp [go_sem, a.e 17 (j 0 rfl)]) ((More_ok quP (s2 1) 0 1 999 (priceQ quP 999) 1123 W (step_of (blk_below b5_0 i)) quP_in (by decide) rfl (by decide) quP_most : Calls _ _ #[.agg #[.int .i64 10000, .int .i64 20000, .int .i64 100, .int .i64 5000, .int .i64 300, .int .i64 1000, .int .i64 900, .int .i64 400, .int .i64 50, .int .i64 200, .slice (some ⟨(s2 1), 0, none⟩) (1) (1)], .int .i64 999] W _)),
  fun f s W i j k l m a => opv rfl rfl (by simp [go_sem, a.e 18 (j 1 rfl)]) rfl,
  fun f s W i j k l m a => opv rfl rfl (by simp [go_sem, a.e 16 (j 2 rfl)]) rfl,
  fun f s W i j k l m a => opv rfl rfl (by simp [go_sem, a.e 16 (j 2 rfl)]) rfl,
  fun f s W i j k l m a => opv rfl rfl (by simp [go_sem, a.e 19 (j 3 rfl)]) rfl,
  fun f s W i j k l m a => opv rfl rfl (by simp [go_sem, a.e 20 (j 4 rfl)]) rfl, trivial⟩ ?_
 intro f8 s8 W8 hB8 g8 hg8
 have fB8 := hB8.f fB5
 have z8 := hB8.below.size
 have b8_0 := hB8.b b5_0
 have b8_1 := hB8.b b5_1
 have b8_2 := hB8.b nb5
 refine hK4 _ _ ?_
 have k8_0 := kt hg8 0 k7_0
 have k8_3 := kt hg8 3 k7_3
 have k8_4 := kt hg8 4 k7_4
 have k8_5 := kt hg8 5 (hB8.is 5)
 have k8_6 := kt hg8 6 (hB8.is 6)
 refine wp_seq_k fun K5 hK5 => ?_
 refine region_dk 15 [(21, 0), (22, 1), (23, 2), (24, 3), (25, 4), (26, 5), (27, 6), (28, 7), (29, 8), (30, 9), (31, 10), (32, 11), (33, 12), (34, 13), (0, 14)] [[], [0], [0, 1], [0, 1, 2], [0, 1, 2, 3], [0, 1, 2, 3, 4], [0, 1, 2, 3, 4, 5], [0, 1, 2, 3, 4, 5, 6], [0, 1, 2, 3, 4, 5, 6, 7], [0, 1, 2, 3, 4, 5, 6, 7, 8], [0, 1, 2, 3, 4, 5, 6, 7, 8, 9], [0, 1, 2, 3, 4, 5, 6, 7, 8, 9, 10], [0, 1, 2, 3, 4, 5, 6, 7, 8, 9, 10, 11], [0, 1, 2, 3, 4, 5, 6, 7, 8, 9, 10, 11, 12], [0, 1, 2, 3, 4, 5, 6, 7, 8, 9, 10, 11, 12, 13]] (rel [is (.int .i64 0),
   is (.bool true),
   is (.bool true),
   is (.int .i64 0),
   is (.bool true),
   is (.bool true),
   is (.bool true),
   is (.int .i64 (priceQ quP 500)),
   is (.bool true),
   is (.bool true),
   is (.bool true),
   is (.int .i64 1123),
   is (.bool true),
   is (.bool true),
   is (.bool true)])
  ⟨is_k, is_k, is_k, is_k, is_k, is_k, is_k, is_k, is_k, is_k, is_k, is_k, is_k, is_k, is_k, trivial⟩
  ⟨fun f s W i j k l m a => opv rfl rfl (by simp [go_sem, a.e 4 k8_4]) rfl,
  fun f s W i j k l m a => opv rfl rfl (by simp [go_sem, a.e 21 (j 0 rfl)]) rfl,
  fun f s W i j k l m a => opv rfl rfl (by simp [go_sem, a.e 22 (j 1 rfl)]) rfl,
  fun f s W i j k l m a => osure rfl rfl (a.says (d := 23) rfl rfl (j 2 rfl)) (gv (by simp [go_sem, a.e 6 k8_6]) rfl),
  fun f s W i j k l m a => osure rfl rfl (a.says (d := 23) rfl rfl (j 2 rfl)) (gv (by simp [go_sem, a.e 24 (j 3 rfl)]) rfl),
  fun f s W i j k l m a => opk (c := true) rfl rfl (fun h => absurd h (by decide)) (fun _ => by simp [go_sem, a.e 23 (j 2 rfl), a.e 25 (j 4 rfl)]),
  fun f s W i j k l m a => opv rfl rfl (by simp [go_sem, a.e 26 (j 5 rfl)]) rfl,
  fun f s W i j k l m a => osure rfl rfl (a.says (d := 27) rfl rfl (j 6 rfl)) (gv (by simp [go_sem, a.e 3 k8_3]) rfl),
  fun f s W i j k l m a => osure rfl rfl (a.says (d := 27) rfl rfl (j 6 rfl)) (gv (by simp [go_sem, a.e 28 (j 7 rfl), hpr_]) rfl),
  fun f s W i j k l m a => opk (c := true) rfl rfl (fun h => absurd h (by decide)) (fun _ => by simp [go_sem, a.e 27 (j 6 rfl), a.e 29 (j 8 rfl)]),
  fun f s W i j k l m a => opv rfl rfl (by simp [go_sem, a.e 30 (j 9 rfl)]) rfl,
  fun f s W i j k l m a => osure rfl rfl (a.says (d := 31) rfl rfl (j 10 rfl)) (gv (by simp [go_sem, a.e 5 k8_5]) rfl),
  fun f s W i j k l m a => osure rfl rfl (a.says (d := 31) rfl rfl (j 10 rfl)) (gv (by simp [go_sem, a.e 32 (j 11 rfl)]) rfl),
  fun f s W i j k l m a => opk (c := true) rfl rfl (fun h => absurd h (by decide)) (fun _ => by simp [go_sem, a.e 31 (j 10 rfl), a.e 33 (j 12 rfl)]),
  fun f s W i j k l m a => opv rfl rfl (by simp [go_sem, a.e 34 (j 13 rfl)]) rfl, trivial⟩ ?_
 intro f9 s9 W9 hB9 g9 hg9
 have fB9 := hB9.f fB8
 have z9 := hB9.below.size
 have b9_0 := hB9.b b8_0
 have b9_1 := hB9.b b8_1
 have b9_2 := hB9.b b8_2
 refine hK5 _ _ ?_
 have k9_0 := kt hg9 0 (hB9.is 14)
 refine wp_ret ?_
 refine leave_one (N := 35) (v := .bool true) (.inr rfl) Try.results13 rfl k9_0 ?_
 exact ⟨rfl, fB9⟩
end Go.Proofs.Ytolnpbpeifpbjaa
namespace Go.Proofs.Ytolnpbpeifpbjaa
open Go.RowKit
/-- A block with its type, and what lies in it before the store and behind it. -/
structure Tg where
  b : Nat
  t : TypeId
  o : Array Value
  f : Array Value
def tgS : List Tg → Nat → Prop
  | [], _ => False
  | x :: r, k => x.b = k ∨ tgS r k
def Tg.was (x : Tg) (W : World) : Prop := W.heap[x.b]? = some (.cells x.o x.t (0, 0)) ∨ W.heap[x.b]? = some (.cells x.f x.t (0, 0))
def Tg.now (x : Tg) (W : World) : Prop := W.heap[x.b]? = some (.cells x.f x.t (0, 0))
def tgP : List Tg → List (World → Prop)
  | [] => []
  | x :: r => x.was :: x.now :: tgP r
def tgD : List Tg → Prop
  | [] => True
  | x :: r => (∀ y ∈ r, x.b ≠ y.b) ∧ tgD r
theorem tgP_mem : ∀ {l : List Tg} {p : World → Prop}, p ∈ tgP l → ∃ x ∈ l, p = x.was ∨ p = x.now
  | [], _, h => by simp [tgP] at h
  | x :: r, p, h => by
    simp only [tgP, List.mem_cons] at h
    rcases h with h | h | h
    · exact ⟨x, .head _, .inl h⟩
    · exact ⟨x, .head _, .inr h⟩
    · obtain ⟨y, hy, h'⟩ := tgP_mem h
      exact ⟨y, .tail _ hy, h'⟩
theorem tgP_was : ∀ {l : List Tg} {x : Tg}, x ∈ l → x.was ∈ tgP l ∧ x.now ∈ tgP l
  | [], _, h => by simp at h
  | y :: r, x, h => by
    rcases List.mem_cons.1 h with rfl | h
    · simp [tgP]
    · have := tgP_was h
      simp [tgP, this.1, this.2]
theorem tgS_of : ∀ {l : List Tg} {x : Tg}, x ∈ l → tgS l x.b
  | [], _, h => by simp at h
  | y :: r, x, h => by
    rcases List.mem_cons.1 h with rfl | h
    · exact .inl rfl
    · exact .inr (tgS_of h)
theorem tgD_eq : ∀ {l : List Tg} {x y : Tg}, tgD l → x ∈ l → y ∈ l → x.b = y.b → x = y
  | [], _, _, _, h, _, _ => by simp at h
  | z :: r, x, y, hd, hx, hy, e => by
    rcases List.mem_cons.1 hx with rfl | hx'
    · rcases List.mem_cons.1 hy with rfl | hy'
      · rfl
      · exact absurd e (hd.1 y hy')
    · rcases List.mem_cons.1 hy with rfl | hy'
      · exact absurd e.symm (hd.1 x hx')
      · exact tgD_eq hd.2 hx' hy' e
theorem tgP_stay (l : List Tg) : StayB (tgP l) := by
  intro p hp a b hb h
  obtain ⟨x, -, rfl | rfl⟩ := tgP_mem hp
  · rcases h with h | h
    · exact .inl (blk_below h hb)
    · exact .inr (blk_below h hb)
  · exact blk_below h hb
section
variable {P : Program} {ops : Array Oper} {Q : Exit → Act → World → Prop} {l : List Tg}
theorem nowO_k {ds : List (List Nat)} {i b : Nat} {t : TypeId} {o f : Array Value} (hx : (⟨b, t, o, f⟩ : Tg) ∈ l) : KeepsL (LeX (tgS l) (tgP l)) ds i (fun _ _ W => W.heap[b]? = some (.cells f t (0, 0))) :=
  ⟨fun _ _ _ _ hb h => hb.stay _ (tgP_was hx).2 h, fun _ _ _ _ _ h => h⟩
theorem stoO_do {i b off : Nat} {t : TypeId} {o f : Array Value} (hd : tgD l) (hx : (⟨b, t, o, f⟩ : Tg) ∈ l) {a : Act} {W : World} {ty tt : TypeId} {x y : Operand} {pos : String} {af : Array Edge} {v : Value} (hw : Tg.was ⟨b, t, o, f⟩ W)
    (ho : ops[i]? = some { dst := none, op := .store ty x y, type := tt, pos := pos, after := af, guard := none }) (hp : a.eval x = .pointer (some ⟨b, off, none⟩)) (hy : a.eval y = v) (hi : (P.info? ty).map (·.size) = some v.cells.size) (h1 : v.cells.toList.all (·.oneCell') = true)
    (hl1 : decide (off + v.cells.size ≤ o.size) = true) (hl2 : decide (off + v.cells.size ≤ f.size) = true) (e1 : (o.toList.take off ++ v.cells.toList ++ o.toList.drop (off + v.cells.size)).toArray = f) (e2 : (f.toList.take off ++ v.cells.toList ++ f.toList.drop (off + v.cells.size)).toArray = f) :
    OpDoL (LeX (tgS l) (tgP l)) P ops Q i a W (fun _ W' => W'.heap[b]? = some (.cells f t (0, 0))) := by
  have key : ∀ cs, W.heap[b]? = some (.cells cs t (0, 0)) → decide (off + v.cells.size ≤ cs.size) = true → (cs.toList.take off ++ v.cells.toList ++ cs.toList.drop (off + v.cells.size)).toArray = f → OpDoL (LeX (tgS l) (tgP l)) P ops Q i a W (fun _ W' => W'.heap[b]? = some (.cells f t (0, 0))) := by
    intro cs hb hl e
    have hr := run_seg (P := P) (a := a) (dst := none) (ty := ty) (tt := tt) (x := x) (y := y) (pos := pos) (af := af) (gd := none) (W' := W.setRow b f) rfl hp hy hb hi hl h1 e
    have hnew := setRow_heap W b cs f t (0, 0) hb
    have hot : ∀ k z, k ≠ b → W.heap[k]? = some z → (W.setRow b f).heap[k]? = some z := fun k z hk hz => by rw [setRow_other W b k f hk]; exact hz
    refine opDoL_skip ho ⟨rfl, rfl⟩ hr ⟨rfl, rfl, rfl, by rw [setRow_size]; exact Nat.le_refl _, fun k hk hn => setRow_other W b k f fun e => hn (e ▸ tgS_of hx), fun p hp hpa => ?_⟩ hnew
    obtain ⟨z, hz, hz'⟩ := tgP_mem hp
    by_cases e : z.b = b
    · have hzx := tgD_eq hd hz hx e
      subst hzx
      rcases hz' with rfl | rfl
      · exact .inr hnew
      · exact hnew
    · rcases hz' with rfl | rfl
      · rcases hpa with h | h
        · exact .inl (hot _ _ e h)
        · exact .inr (hot _ _ e h)
      · exact hot _ _ e hpa
  rcases hw with h | h
  · exact key o h hl1 e1
  · exact key f h hl2 e2
end
end Go.Proofs.Ytolnpbpeifpbjaa
namespace Go.Proofs.Ytolnpbpeifpbjaa
open Go.RowKit
end Go.Proofs.Ytolnpbpeifpbjaa
