/- Part of the proof: what the claim leans on. -/
import Derived.Test.YthnediamopehfaaGreatZAA
import Derived.Test.YthnediamopehfaaGreatZAL
import Derived.Test.YthnediamopehfaaGreatZAM
import Derived.Test.YthnediamopehfaaGreatZAB
import Derived.Test.YthnediamopehfaaGreatZAC
import Derived.Test.YthnediamopehfaaGreatZAD
import Derived.Test.YthnediamopehfaaGreatZAE
import Derived.Test.YthnediamopehfaaGreatZAF
import Derived.Test.YthnediamopehfaaGreatZAG
import Derived.Test.YthnediamopehfaaGreatZAH
import Derived.Test.YthnediamopehfaaGreatZAI
import Derived.Test.YthnediamopehfaaGreatZAJ
import Derived.Test.YthnediamopehfaaGreatZAK
import Derived.Test.YthnediamopehfaaGreatZAT
import Derived.Test.YthnediamopehfaaGreatZAX
import Derived.Test.YthnediamopehfaaGreatZAY
import Derived.Test.YthnediamopehfaaGreatZAN
import Derived.Test.YthnediamopehfaaGreatZAO
import Derived.Test.YthnediamopehfaaGreatZAP
import Derived.Test.YthnediamopehfaaGreatZAQ
import Derived.Test.YthnediamopehfaaGreatZAR
import Derived.Test.YthnediamopehfaaGreatZAS
import Derived.Test.YthnediamopehfaaGreatZAU
import Derived.Test.YthnediamopehfaaGreatZAV
import Derived.Test.YthnediamopehfaaGreatZAW
import Derived.Test.YthnediamopehfaaGreatZKnown
import Derived.Lib.SmallJoins
import Derived.Laws.CopyRow
import Derived.Laws.CopyOwn
import Derived.ArgAppend
set_option linter.unusedSimpArgs false
set_option linter.unusedVariables false
namespace Go.Proofs.YthnediamopehfaaGreat
open Go.RowKit
section
variable {P : Program} {ops : Array Oper} {Q : Exit → Act → World → Prop}
theorem gk {a : Act} {W : World} {o : Oper} {c : Bool} {v : Value} (hf : c = false → (execOp a.eval o).run P W = .ok (.value v) W) (ht : c = true → (execOp a.eval o).run P W = .ok (.value v) W) :
    ∀ K : Act → World → Prop, (∀ u W', Below W.heap.size W W' → u = v → K (a.put o.dst u) W') → o.wp P a W K Q := by
  cases c with
  | false => exact gv (hf rfl) rfl
  | true => exact gv (ht rfl) rfl
end
def IsPp (xs : List (Int × Int)) (v : Value) (W : World) : Prop := ∃ a c, v = .slice a xs.length c ∧ Pp W a xs.length c xs
theorem IsPp.below {xs : List (Int × Int)} {v : Value} {W W' : World} (h : IsPp xs v W) (hb : Below W.heap.size W W') : IsPp xs v W' := by
  obtain ⟨a, c, e, h⟩ := h; exact ⟨a, c, e, h.below hb (Nat.le_refl _)⟩
/-- A slice of the call's own that holds these, in a block from B on. -/
def NwIi (B : Nat) (xs : List Int) (v : Value) (W : World) : Prop := ∃ g c, v = .slice (some ⟨g, 0, none⟩) xs.length c ∧ Ii W (some ⟨g, 0, none⟩) xs.length c xs ∧ B ≤ g ∧ g < W.heap.size
theorem NwIi.below {B : Nat} {xs : List Int} {v : Value} {W W' : World} (h : NwIi B xs v W) (hb : Below W.heap.size W W') : NwIi B xs v W' := by
  obtain ⟨g, c, e, h, h1, h2⟩ := h; exact ⟨g, c, e, h.below hb (Nat.le_refl _), h1, Nat.lt_of_lt_of_le h2 hb.size⟩
/-- What an operation made lies apart from the block that another one began with. -/
theorem Behind.off {R : Nat → Value → (Nat → Nat) → World → Prop} {w : World} {n : Nat} {f : Nat → Value} {s : Nat → Nat} {W : World} (h : Behind R w n f s W) (i j : Nat) (hi : i < n) (hj : j < n) (hij : i ≠ j) {g : Nat}
    (hg : s i ≤ g) (h1 : ∀ W, R i (f i) s W → g < W.heap.size) (h2 : ∀ v s W, R j v s W → s j < W.heap.size) : g ≠ s j := by
  obtain ⟨t, ht, hd⟩ := h.apart
  obtain ⟨a, b, W1, r1, z1⟩ := ht i hi
  obtain ⟨c, d, W2, r2, z2⟩ := ht j hj
  have := h1 _ r1; have := h2 _ _ _ r2
  have := hd i j hi hj hij
  omega
end Go.Proofs.YthnediamopehfaaGreat
namespace Go.Proofs.YthnediamopehfaaGreat
open Go.RowKit
theorem clone_run (ty : TypeId) (W : World) (g : Nat) (a : Option Addr) (c : Nat) (xs : List Int) (h : Ii W a xs.length c xs) (hn : xs.length ≤ 1000) (hg : W.heap[g]? = some (.cells #[] 3 (0, 0))) (B : Nat) (hB : B ≤ g) (hB2 : B ≤ W.heap.size) :
    ∃ v W', (Builtin.append_ #[22, 22] ty #[.slice (some ⟨g, 0, none⟩) 0 0, .slice a xs.length c]).run Tryz.prog W = .ok v W' ∧ Below W.heap.size W W' ∧ NwIi B xs v W' := by
  obtain ⟨i0, hi, hz0, hz1, hz2⟩ := info_parts Tryz.info3x
  have hg' : g < W.heap.size := lt_of_blk hg
  by_cases hne : 0 < xs.length
  · obtain ⟨b, off, rfl, hb, hc⟩ := h.at hne
    obtain ⟨v, W', hr, hown, hgr⟩ := run_append_arg_grows (P := Tryz.prog) W 22 ty 3 i0 (.int .i64 0) 1 8 Tryz.underlying22 hi hz0 hz1 hz2 rfl (by decide) ⟨g, 0, none⟩ 0 0 [] rfl (fun j u hj => by simp at hj) ⟨b, off, none⟩ xs.length c (xs.map (Value.int .i64)) (by simp)
      (fun j u hj => by
        have hj' : j < xs.length := by
          rcases Nat.lt_or_ge j xs.length with h' | h'
          · exact h'
          · rw [List.getElem?_eq_none (by simpa using h')] at hj; cases hj
        rw [show ((⟨b, off, none⟩ : Addr).add j) = ⟨b, off + j, none⟩ from by unfold Addr.add; split <;> simp_all, hc j hj']
        simp [List.getElem?_map, hj'] at hj
        subst hj
        simp [List.getD_eq_getElem?_getD, hj'])
      (by omega) (by unfold maxLen; omega) (by omega)
    obtain ⟨g2, cap2, rfl⟩ := Joins.ownsRow_form hown (by omega)
    simp only [Nat.zero_add, List.nil_append] at hown hr
    exact ⟨_, W', hr, (Below.refl _ _).grown hgr (Nat.le_refl _) (fun k e => by cases e), g2, _, rfl, owns_ii (xs := xs) hown, Nat.le_trans hB2 (own_ge hown g2 rfl), own_lt' hown⟩
  · obtain rfl : xs = [] := by cases xs with | nil => rfl | cons x r => simp at hne
    have ii0 : Ii W (some ⟨g, 0, none⟩) 0 0 [] := ⟨rfl, Nat.le_refl _, by unfold maxLen; omega, by simp, .inl rfl⟩
    cases a with
    | none =>
      obtain rfl : c = 0 := h.2.2.2.1 rfl
      have hown : W.ownsRow 0 3 1 (.slice (some ⟨g, 0, none⟩) 0 0) 0 [] := ⟨rfl, .inr ⟨g, 0, #[], rfl, Nat.zero_le _, hg, Nat.le_refl _, by unfold maxLen; omega, rfl, rfl⟩⟩
      exact ⟨_, W, run_append_owned_none (P := Tryz.prog) W 0 22 ty 3 i0 1 Tryz.underlying22 hi _ 0 [] hown, Below.refl _ _, _, _, rfl, ii0, hB, hg'⟩
    | some ad =>
      have hr := run_append_room_cells (P := Tryz.prog) W 22 ty 3 i0 Tryz.underlying22 hi g 0 0 0 ad 0 c [] (by simp) (by simp) (by simp) (by omega) (by simp) (by simp)
      refine ⟨_, _, hr, ?_, g, _, rfl, ?_, hB, ?_⟩
      · simp [World.setCells]; exact Below.refl _ _
      · simp [World.setCells]; exact ii0
      · simp [World.setCells]; exact hg'
end Go.Proofs.YthnediamopehfaaGreat
namespace Go.Proofs.YthnediamopehfaaGreat
open Go.RowKit
set_option maxRecDepth 100000 in
set_option maxHeartbeats 1000000 in
theorem copy_any (a1 a2 a3 : Option Addr) (c1 c2 c3 : Nat) (b : Bl) (w : World) (h1 : Ii w a1 b.panels.length c1 b.panels) (h2 : Ii w a2 b.top.length c2 b.top) (h3 : Ii w a3 b.bottom.length c3 b.bottom) (n1 : b.panels.length ≤ 1000) (n2 : b.top.length ≤ 1000) (n3 : b.bottom.length ≤ 1000) :
  Calls Tryz.prog 48 #[.agg #[.int .i64 b.tab, .slice (a1) (b.panels.length) (c1), .int .i64 b.height, .slice (a2) (b.top.length) (c2), .slice (a3) (b.bottom.length) (c3), .int .i64 b.slot, .bool b.isOpen]] w (NwBlkP b w) := by
 refine calls_fr Tryz.func48 Tryz.ntmps48 rfl rfl fun g hg => ?_
 have k0 : g 0 = .agg #[.int .i64 b.tab, .slice (a1) (b.panels.length) (c1), .int .i64 b.height, .slice (a2) (b.top.length) (c2), .slice (a3) (b.bottom.length) (c3), .int .i64 b.slot, .bool b.isOpen] := hg 0
 clear hg
 have fB0 : Below w.heap.size w w := Below.refl _ _
 refine wp_seq_k fun K1 hK1 => ?_
 refine region_dk 2 [(1, 0), (2, 1)] [[], []] (rel [bx 0 #[.int .i64 b.tab, .slice (a1) (b.panels.length) (c1), .int .i64 b.height, .slice (a2) (b.top.length) (c2), .slice (a3) (b.bottom.length) (c3), .int .i64 b.slot, .bool b.isOpen] 24,
   bx 1 #[.int .i64 0, .slice (none) (0) (0), .int .i64 0, .slice (none) (0) (0), .slice (none) (0) (0), .int .i64 0, .bool false] 24])
  ⟨bx_k, bx_k, trivial⟩
  ⟨fun f s W c d i j a ha => opb rfl rfl (by simp [go_sem, ha.e 0 k0]),
  fun f s W c d i j a ha => opb rfl rfl (by simp [go_sem]), trivial⟩ ?_
 intro f1 s1 W1 hB1 g1 hg1
 have fB1 := hB1.f fB0
 have z1 := hB1.below.size
 obtain ⟨r1_0, br1_0⟩ := hB1.is 0
 have lr1_0 := hB1.lr 0 br1_0
 obtain ⟨r1_1, br1_1⟩ := hB1.is 1
 have lr1_1 := hB1.lr 1 br1_1
 have ne1_0_1 : s1 0 ≠ s1 1 := hB1.ne 0 1 (by decide) (by decide) (by decide) (fun _ _ _ h => lt_of_blk h.2) (fun _ _ _ h => lt_of_blk h.2)
 refine hK1 _ _ ?_
 have k1_1 := kt hg1 1 r1_0
 have k1_2 := kt hg1 2 r1_1
 refine wp_seq_k fun K2 hK2 => ?_
 refine region_dk 13 [(3, 0), (4, 1), (5, 2), (6, 3), (7, 4), (8, 5), (9, 6), (10, 7), (11, 8), (12, 9), (13, 10), (14, 11), (15, 12), (16, 14), (17, 16)] [[], [], [1], [0, 1, 2], [], [], [5], [0, 1, 2, 3, 4, 5, 6], [], [], [9], [0, 1, 2, 3, 4, 5, 6, 7, 8, 9, 10], [0, 1, 2, 3, 5, 6, 9, 10], [0, 1, 2, 3, 4, 5, 6, 7, 8, 9, 10, 11, 12], [0, 1, 2, 3, 4, 5, 6, 7, 8, 9, 10, 11, 12, 13], [0, 1, 2, 3, 4, 5, 6, 7, 8, 9, 10, 11, 12, 13, 14], [0, 1, 2, 3, 4, 5, 6, 7, 8, 9, 10, 11, 12, 13, 14, 15], [0, 1, 2, 3, 4, 5, 6, 7, 8, 9, 10, 11, 12, 13, 14, 15, 16]] (rel [row 0 0 #[] 3,
   is (.pointer (some ⟨(s1 0), 1, none⟩)),
   is (.slice (a1) (b.panels.length) (c1)),
   ab fun v W => NwIi W1.heap.size (b.panels) v W,
   row 4 0 #[] 3,
   is (.pointer (some ⟨(s1 0), 3, none⟩)),
   is (.slice (a2) (b.top.length) (c2)),
   ab fun v W => NwIi W1.heap.size (b.top) v W,
   row 8 0 #[] 3,
   is (.pointer (some ⟨(s1 0), 4, none⟩)),
   is (.slice (a3) (b.bottom.length) (c3)),
   ab fun v W => NwIi W1.heap.size (b.bottom) v W,
   is (.pointer (some ⟨(s1 0), 1, none⟩))])
  ⟨row_k, is_k, is_k, ab_k fun v W W' hb h => h.below hb, row_k, is_k, is_k, ab_k fun v W W' hb h => h.below hb, row_k, is_k, is_k, ab_k fun v W W' hb h => h.below hb, is_k, trivial⟩
  ⟨fun f s W c d i j a ha => opr rfl rfl (by simp [go_sem]),
  fun f s W c d i j a ha => opv rfl rfl (by simp [go_sem, ha.e 1 k1_1]) rfl,
  fun f s W c d i j a ha => opv rfl rfl (by simp [go_sem, ha.e 4 (d 1 rfl), cb br1_0 c 1]) rfl,
  fun f s W c d i j a ha => by have k := below_trans fB1 c; obtain ⟨v_, W_, r_, b_, i_⟩ := clone_run 22 W (s 0) (a1) (c1) (b.panels) ((h1.below k (Nat.le_refl _))) (n1) (d 0 rfl).2 W1.heap.size (i 0 rfl) c.size; exact opDo_value rfl rfl (run_appendOp (ha.v 3 (d 0 rfl).1) (ha.v 5 (d 2 rfl)) r_) b_ i_,
  fun f s W c d i j a ha => opr rfl rfl (by simp [go_sem]),
  fun f s W c d i j a ha => opv rfl rfl (by simp [go_sem, ha.e 1 k1_1]) rfl,
  fun f s W c d i j a ha => opv rfl rfl (by simp [go_sem, ha.e 8 (d 5 rfl), cb br1_0 c 3]) rfl,
  fun f s W c d i j a ha => by have k := below_trans fB1 c; obtain ⟨v_, W_, r_, b_, i_⟩ := clone_run 22 W (s 4) (a2) (c2) (b.top) ((h2.below k (Nat.le_refl _))) (n2) (d 4 rfl).2 W1.heap.size (i 4 rfl) c.size; exact opDo_value rfl rfl (run_appendOp (ha.v 7 (d 4 rfl).1) (ha.v 9 (d 6 rfl)) r_) b_ i_,
  fun f s W c d i j a ha => opr rfl rfl (by simp [go_sem]),
  fun f s W c d i j a ha => opv rfl rfl (by simp [go_sem, ha.e 1 k1_1]) rfl,
  fun f s W c d i j a ha => opv rfl rfl (by simp [go_sem, ha.e 12 (d 9 rfl), cb br1_0 c 4]) rfl,
  fun f s W c d i j a ha => by have k := below_trans fB1 c; obtain ⟨v_, W_, r_, b_, i_⟩ := clone_run 22 W (s 8) (a3) (c3) (b.bottom) ((h3.below k (Nat.le_refl _))) (n3) (d 8 rfl).2 W1.heap.size (i 8 rfl) c.size; exact opDo_value rfl rfl (run_appendOp (ha.v 11 (d 8 rfl).1) (ha.v 13 (d 10 rfl)) r_) b_ i_,
  fun f s W c d i j a ha => opv rfl rfl (by simp [go_sem, ha.e 1 k1_1]) rfl, trivial⟩ ?_
 intro f2 s2 W2 hB2 g2 hg2
 have fB2 := hB2.f fB1
 have z2 := hB2.below.size
 have b2_0 := hB2.b br1_0
 have b2_1 := hB2.b br1_1
 obtain ⟨r2_0, br2_0⟩ := hB2.is 0
 have lr2_0 := hB2.lr 0 br2_0
 obtain ⟨g1', c2', r2_3, q3', q5', q4'⟩ := hB2.is 3
 obtain ⟨r2_4, br2_4⟩ := hB2.is 4
 have lr2_4 := hB2.lr 4 br2_4
 obtain ⟨g6', c7', r2_7, q8', q10', q9'⟩ := hB2.is 7
 obtain ⟨r2_8, br2_8⟩ := hB2.is 8
 have lr2_8 := hB2.lr 8 br2_8
 obtain ⟨g11', c12', r2_11, q13', q15', q14'⟩ := hB2.is 11
 have ne2_0_4 : s2 0 ≠ s2 4 := hB2.ne 0 4 (by decide) (by decide) (by decide) (fun _ _ _ h => lt_of_blk h.2) (fun _ _ _ h => lt_of_blk h.2)
 have ne2_0_8 : s2 0 ≠ s2 8 := hB2.ne 0 8 (by decide) (by decide) (by decide) (fun _ _ _ h => lt_of_blk h.2) (fun _ _ _ h => lt_of_blk h.2)
 have ne2_4_8 : s2 4 ≠ s2 8 := hB2.ne 4 8 (by decide) (by decide) (by decide) (fun _ _ _ h => lt_of_blk h.2) (fun _ _ _ h => lt_of_blk h.2)
 have k2_1 := kt hg2 1 k1_1
 have k2_2 := kt hg2 2 k1_2
 have k2_6 := kt hg2 6 r2_3
 have k2_10 := kt hg2 10 r2_7
 have k2_14 := kt hg2 14 r2_11
 have k2_15 := kt hg2 15 (hB2.is 12)
 obtain ⟨W3, hW3⟩ : ∃ W', W' = W2.setRow (s1 0) #[.int .i64 b.tab, .slice (some ⟨g1', 0, none⟩) ((b.panels).length) (c2'), .int .i64 b.height, .slice (a2) (b.top.length) (c2), .slice (a3) (b.bottom.length) (c3), .int .i64 b.slot, .bool b.isOpen] := ⟨_, rfl⟩
 refine tail_skip (o := _) rfl ⟨rfl, rfl⟩ (run_seg hW3 (fr_ev k2_15) (fr_ev k2_6) b2_0 rfl rfl rfl rfl) ?_
 obtain ⟨fB3, nb3, ot3, z3⟩ := seg_facts hW3 fB2 b2_0 (by omega)
 clear hW3
 have b3_1 := ot3 _ _ (by omega) b2_1
 have b3_2 := ot3 _ _ (by omega) br2_0
 have b3_3 := ot3 _ _ (by omega) br2_4
 have b3_4 := ot3 _ _ (by omega) br2_8
 have q16' := (q3'.other ot3 q4' (by omega) z3)
 have q17' := Nat.lt_of_lt_of_le q4' z3
 have q18' := (q8'.other ot3 q9' (by omega) z3)
 have q19' := Nat.lt_of_lt_of_le q9' z3
 have q20' := (q13'.other ot3 q14' (by omega) z3)
 have q21' := Nat.lt_of_lt_of_le q14' z3
 refine tail_value (o := _) rfl rfl rfl (v := .pointer (some ⟨(s1 0), 3, none⟩)) (by simp [go_sem, frv 19 k2_1]) ?_
 generalize hg4 : upd g2 16 (.pointer (some ⟨(s1 0), 3, none⟩)) = g4
 have k4_1 := ku hg4 1 k2_1
 have k4_2 := ku hg4 2 k2_2
 have k4_10 := ku hg4 10 k2_10
 have k4_14 := ku hg4 14 k2_14
 have k4_16 := kt hg4 16 (upd_same _ _ _)
 obtain ⟨W5, hW5⟩ : ∃ W', W' = W3.setRow (s1 0) #[.int .i64 b.tab, .slice (some ⟨g1', 0, none⟩) ((b.panels).length) (c2'), .int .i64 b.height, .slice (some ⟨g6', 0, none⟩) ((b.top).length) (c7'), .slice (a3) (b.bottom.length) (c3), .int .i64 b.slot, .bool b.isOpen] := ⟨_, rfl⟩
 refine tail_skip (o := _) rfl ⟨rfl, rfl⟩ (run_seg hW5 (fr_ev k4_16) (fr_ev k4_10) nb3 rfl rfl rfl rfl) ?_
 obtain ⟨fB5, nb5, ot5, z5⟩ := seg_facts hW5 fB3 nb3 (by omega)
 clear hW5
 have b5_1 := ot5 _ _ (by omega) b3_1
 have b5_2 := ot5 _ _ (by omega) b3_2
 have b5_3 := ot5 _ _ (by omega) b3_3
 have b5_4 := ot5 _ _ (by omega) b3_4
 have q22' := (q16'.other ot5 q17' (by omega) z5)
 have q23' := Nat.lt_of_lt_of_le q17' z5
 have q24' := (q18'.other ot5 q19' (by omega) z5)
 have q25' := Nat.lt_of_lt_of_le q19' z5
 have q26' := (q20'.other ot5 q21' (by omega) z5)
 have q27' := Nat.lt_of_lt_of_le q21' z5
 refine tail_value (o := _) rfl rfl rfl (v := .pointer (some ⟨(s1 0), 4, none⟩)) (by simp [go_sem, frv 19 k4_1]) ?_
 generalize hg6 : upd g4 17 (.pointer (some ⟨(s1 0), 4, none⟩)) = g6
 have k6_1 := ku hg6 1 k4_1
 have k6_2 := ku hg6 2 k4_2
 have k6_14 := ku hg6 14 k4_14
 have k6_17 := kt hg6 17 (upd_same _ _ _)
 obtain ⟨W7, hW7⟩ : ∃ W', W' = W5.setRow (s1 0) #[.int .i64 b.tab, .slice (some ⟨g1', 0, none⟩) ((b.panels).length) (c2'), .int .i64 b.height, .slice (some ⟨g6', 0, none⟩) ((b.top).length) (c7'), .slice (some ⟨g11', 0, none⟩) ((b.bottom).length) (c12'), .int .i64 b.slot, .bool b.isOpen] := ⟨_, rfl⟩
 refine tail_skip (o := _) rfl ⟨rfl, rfl⟩ (run_seg hW7 (fr_ev k6_17) (fr_ev k6_14) nb5 rfl rfl rfl rfl) ?_
 obtain ⟨fB7, nb7, ot7, z7⟩ := seg_facts hW7 fB5 nb5 (by omega)
 clear hW7
 have b7_1 := ot7 _ _ (by omega) b5_1
 have b7_2 := ot7 _ _ (by omega) b5_2
 have b7_3 := ot7 _ _ (by omega) b5_3
 have b7_4 := ot7 _ _ (by omega) b5_4
 have q28' := (q22'.other ot7 q23' (by omega) z7)
 have q29' := Nat.lt_of_lt_of_le q23' z7
 have q30' := (q24'.other ot7 q25' (by omega) z7)
 have q31' := Nat.lt_of_lt_of_le q25' z7
 have q32' := (q26'.other ot7 q27' (by omega) z7)
 have q33' := Nat.lt_of_lt_of_le q27' z7
 refine wpOps_end ?_
 refine hK2 _ _ ?_
 refine wp_seq_k fun K3 hK3 => ?_
 refine region_dk 1 [(18, 0)] [[], [0]] (rel [is (.agg #[.int .i64 b.tab, .slice (some ⟨g1', 0, none⟩) ((b.panels).length) (c2'), .int .i64 b.height, .slice (some ⟨g6', 0, none⟩) ((b.top).length) (c7'), .slice (some ⟨g11', 0, none⟩) ((b.bottom).length) (c12'), .int .i64 b.slot, .bool b.isOpen])])
  ⟨is_k, trivial⟩
  ⟨fun f s W c d i j a ha => opv rfl rfl (by simp [go_sem, ha.e 1 k6_1, cb nb7 c 0, cb nb7 c 1, cb nb7 c 2, cb nb7 c 3, cb nb7 c 4, cb nb7 c 5, cb nb7 c 6]) rfl, trivial⟩ ?_
 intro f8 s8 W8 hB8 g8 hg8
 have fB8 := hB8.f fB7
 have z8 := hB8.below.size
 have b8_0 := hB8.b nb7
 have b8_1 := hB8.b b7_1
 have b8_2 := hB8.b b7_2
 have b8_3 := hB8.b b7_3
 have b8_4 := hB8.b b7_4
 have q34' := q28'.bw hB8
 have q35' := (hB8.lt q29')
 have q36' := q30'.bw hB8
 have q37' := (hB8.lt q31')
 have q38' := q32'.bw hB8
 have q39' := (hB8.lt q33')
 have k8_2 := kt hg8 2 k6_2
 have k8_18 := kt hg8 18 (hB8.is 0)
 obtain ⟨W9, hW9⟩ : ∃ W', W' = W8.setRow (s1 1) #[.int .i64 b.tab, .slice (some ⟨g1', 0, none⟩) ((b.panels).length) (c2'), .int .i64 b.height, .slice (some ⟨g6', 0, none⟩) ((b.top).length) (c7'), .slice (some ⟨g11', 0, none⟩) ((b.bottom).length) (c12'), .int .i64 b.slot, .bool b.isOpen] := ⟨_, rfl⟩
 refine tail_skip (o := _) rfl ⟨rfl, rfl⟩ (run_seg hW9 (fr_ev k8_2) (fr_ev k8_18) b8_1 rfl rfl rfl rfl) ?_
 obtain ⟨fB9, nb9, ot9, z9⟩ := seg_facts hW9 fB8 b8_1 (by omega)
 clear hW9
 have b9_0 := ot9 _ _ (by omega) b8_0
 have b9_2 := ot9 _ _ (by omega) b8_2
 have b9_3 := ot9 _ _ (by omega) b8_3
 have b9_4 := ot9 _ _ (by omega) b8_4
 have q40' := (q34'.other ot9 q35' (by omega) z9)
 have q41' := Nat.lt_of_lt_of_le q35' z9
 have q42' := (q36'.other ot9 q37' (by omega) z9)
 have q43' := Nat.lt_of_lt_of_le q37' z9
 have q44' := (q38'.other ot9 q39' (by omega) z9)
 have q45' := Nat.lt_of_lt_of_le q39' z9
 refine wpOps_end ?_
 refine hK3 _ _ ?_
 refine wp_ret ?_
 refine leave_gen (v := .agg #[.int .i64 b.tab, .slice (some ⟨g1', 0, none⟩) ((b.panels).length) (c2'), .int .i64 b.height, .slice (some ⟨g6', 0, none⟩) ((b.top).length) (c7'), .slice (some ⟨g11', 0, none⟩) ((b.bottom).length) (c12'), .int .i64 b.slot, .bool b.isOpen]) (.inr rfl) (by simp [results, Tryz.results48, go_sem, frv 19 k8_2, cl nb9 0, cl nb9 1, cl nb9 2, cl nb9 3, cl nb9 4, cl nb9 5, cl nb9 6]) ?_
 exact ⟨_, rfl, ⟨_, _, _, _, _, _, rfl, ⟨q40', by omega, q41'⟩, ⟨q42', by omega, q43'⟩, ⟨q44', by omega, q45'⟩⟩, fB9⟩
end Go.Proofs.YthnediamopehfaaGreat
namespace Go.Proofs.YthnediamopehfaaGreat
open Go.RowKit
set_option maxRecDepth 100000 in
set_option maxHeartbeats 400000 in
theorem own_any (a1 a2 a3 : Option Addr) (c1 c2 c3 : Nat) (b : Bl) (w : World) (h1 : Ii w a1 b.panels.length c1 b.panels) (h2 : Ii w a2 b.top.length c2 b.top) (h3 : Ii w a3 b.bottom.length c3 b.bottom) (n1 : b.panels.length ≤ 1000) (n2 : b.top.length ≤ 1000) (n3 : b.bottom.length ≤ 1000) :
  Calls Tryz.prog 13 #[.agg #[.int .i64 b.tab, .slice (a1) (b.panels.length) (c1), .int .i64 b.height, .slice (a2) (b.top.length) (c2), .slice (a3) (b.bottom.length) (c3), .int .i64 b.slot, .bool b.isOpen]] w (NwBlkP b w) := by
 refine calls_fr Tryz.func13 Tryz.ntmps13 rfl rfl fun g hg => ?_
 have k0 : g 0 = .agg #[.int .i64 b.tab, .slice (a1) (b.panels.length) (c1), .int .i64 b.height, .slice (a2) (b.top.length) (c2), .slice (a3) (b.bottom.length) (c3), .int .i64 b.slot, .bool b.isOpen] := hg 0
 clear hg
 have fB0 : Below w.heap.size w w := Below.refl _ _
 refine wp_seq_k fun K1 hK1 => ?_
 refine region_dk 2 [(1, 0), (2, 1)] [[], []] (rel [bx 0 #[.int .i64 b.tab, .slice (a1) (b.panels.length) (c1), .int .i64 b.height, .slice (a2) (b.top.length) (c2), .slice (a3) (b.bottom.length) (c3), .int .i64 b.slot, .bool b.isOpen] 24,
   bx 1 #[.int .i64 0, .slice (none) (0) (0), .int .i64 0, .slice (none) (0) (0), .slice (none) (0) (0), .int .i64 0, .bool false] 24])
  ⟨bx_k, bx_k, trivial⟩
  ⟨fun f s W c d i j a ha => opb rfl rfl (by simp [go_sem, ha.e 0 k0]),
  fun f s W c d i j a ha => opb rfl rfl (by simp [go_sem]), trivial⟩ ?_
 intro f1 s1 W1 hB1 g1 hg1
 have fB1 := hB1.f fB0
 have z1 := hB1.below.size
 obtain ⟨r1_0, br1_0⟩ := hB1.is 0
 have lr1_0 := hB1.lr 0 br1_0
 obtain ⟨r1_1, br1_1⟩ := hB1.is 1
 have lr1_1 := hB1.lr 1 br1_1
 have ne1_0_1 : s1 0 ≠ s1 1 := hB1.ne 0 1 (by decide) (by decide) (by decide) (fun _ _ _ h => lt_of_blk h.2) (fun _ _ _ h => lt_of_blk h.2)
 refine hK1 _ _ ?_
 have k1_1 := kt hg1 1 r1_0
 have k1_2 := kt hg1 2 r1_1
 refine wp_seq_k fun K2 hK2 => ?_
 refine region_dk 2 [(3, 0), (4, 1)] [[], [0], [0, 1]] (rel [is (.agg #[.int .i64 b.tab, .slice (a1) (b.panels.length) (c1), .int .i64 b.height, .slice (a2) (b.top.length) (c2), .slice (a3) (b.bottom.length) (c3), .int .i64 b.slot, .bool b.isOpen]),
   fun v s W => NwBlk (s 1) (b) v W])
  ⟨is_k, ⟨fun v k W W' hb h => h.below hb, fun v s s' W e h => by have h' : NwBlk (s 1) (b) v W := h; show NwBlk (s' 1) (b) v W; rw [← e 1 (by simp)]; exact h'⟩, trivial⟩
  ⟨fun f s W c d i j a ha => opv rfl rfl (by simp [go_sem, ha.e 1 k1_1, cb br1_0 c 0, cb br1_0 c 1, cb br1_0 c 2, cb br1_0 c 3, cb br1_0 c 4, cb br1_0 c 5, cb br1_0 c 6]) rfl,
  fun f s W c d i j a ha => by have l := below_trans fB1 c; exact opDo_call rfl rfl (by simp [go_sem, ha.e 3 (d 0 rfl)]) (copy_any a1 a2 a3 c1 c2 c3 b W (h1.below l (Nat.le_refl _)) (h2.below l (Nat.le_refl _)) (h3.below l (Nat.le_refl _)) n1 n2 n3) (fun e W' h => by obtain ⟨v, e1, h1, h2⟩ := h; exact ⟨v, e1, h2, (show NwBlk (upd s 1 W.heap.size 1) (b) v W' from by rw [upd_at]; exact h1)⟩), trivial⟩ ?_
 intro f2 s2 W2 hB2 g2 hg2
 have fB2 := hB2.f fB1
 have z2 := hB2.below.size
 have b2_0 := hB2.b br1_0
 have b2_1 := hB2.b br1_1
 obtain ⟨g1', c4', g2', c5', g3', c6', r2_1, ⟨q7', q9', q8'⟩, ⟨q10', q12', q11'⟩, ⟨q13', q15', q14'⟩⟩ := hB2.is 1
 have la2_1 := hB2.from' 1 (by decide)
 have k2_2 := kt hg2 2 k1_2
 have k2_4 := kt hg2 4 r2_1
 obtain ⟨W3, hW3⟩ : ∃ W', W' = W2.setRow (s1 1) #[.int .i64 b.tab, .slice (some ⟨g1', 0, none⟩) (b.panels.length) (c4'), .int .i64 b.height, .slice (some ⟨g2', 0, none⟩) (b.top.length) (c5'), .slice (some ⟨g3', 0, none⟩) (b.bottom.length) (c6'), .int .i64 b.slot, .bool b.isOpen] := ⟨_, rfl⟩
 refine tail_skip (o := _) rfl ⟨rfl, rfl⟩ (run_seg hW3 (fr_ev k2_2) (fr_ev k2_4) b2_1 rfl rfl rfl rfl) ?_
 obtain ⟨fB3, nb3, ot3, z3⟩ := seg_facts hW3 fB2 b2_1 (by omega)
 clear hW3
 have b3_0 := ot3 _ _ (by omega) b2_0
 have q16' := (q7'.other ot3 q8' (by omega) z3)
 have q17' := Nat.lt_of_lt_of_le q8' z3
 have q18' := (q10'.other ot3 q11' (by omega) z3)
 have q19' := Nat.lt_of_lt_of_le q11' z3
 have q20' := (q13'.other ot3 q14' (by omega) z3)
 have q21' := Nat.lt_of_lt_of_le q14' z3
 refine wpOps_end ?_
 refine hK2 _ _ ?_
 refine wp_ret ?_
 refine leave_gen (v := .agg #[.int .i64 b.tab, .slice (some ⟨g1', 0, none⟩) (b.panels.length) (c4'), .int .i64 b.height, .slice (some ⟨g2', 0, none⟩) (b.top.length) (c5'), .slice (some ⟨g3', 0, none⟩) (b.bottom.length) (c6'), .int .i64 b.slot, .bool b.isOpen]) (.inr rfl) (by simp [results, Tryz.results13, go_sem, frv 5 k2_2, cl nb3 0, cl nb3 1, cl nb3 2, cl nb3 3, cl nb3 4, cl nb3 5, cl nb3 6]) ?_
 exact ⟨_, rfl, ⟨_, _, _, _, _, _, rfl, ⟨q16', by omega, q17'⟩, ⟨q18', by omega, q19'⟩, ⟨q20', by omega, q21'⟩⟩, fB3⟩
end Go.Proofs.YthnediamopehfaaGreat
