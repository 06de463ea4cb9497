/- Part of the proof: what the claim leans on. -/
import Derived.Test.YthnediamopehfaaGreatVAA
import Derived.Test.YthnediamopehfaaGreatVAL
import Derived.Test.YthnediamopehfaaGreatVAM
import Derived.Test.YthnediamopehfaaGreatVAB
import Derived.Test.YthnediamopehfaaGreatVAC
import Derived.Test.YthnediamopehfaaGreatVAD
import Derived.Test.YthnediamopehfaaGreatVAE
import Derived.Test.YthnediamopehfaaGreatVAF
import Derived.Test.YthnediamopehfaaGreatVAG
import Derived.Test.YthnediamopehfaaGreatVAH
import Derived.Test.YthnediamopehfaaGreatVAI
import Derived.Test.YthnediamopehfaaGreatVAJ
import Derived.Test.YthnediamopehfaaGreatVAK
import Derived.Test.YthnediamopehfaaGreatVAT
import Derived.Test.YthnediamopehfaaGreatVAX
import Derived.Test.YthnediamopehfaaGreatVAY
import Derived.Test.YthnediamopehfaaGreatVAN
import Derived.Test.YthnediamopehfaaGreatVAO
import Derived.Test.YthnediamopehfaaGreatVAP
import Derived.Test.YthnediamopehfaaGreatVAQ
import Derived.Test.YthnediamopehfaaGreatVAR
import Derived.Test.YthnediamopehfaaGreatVAS
import Derived.Test.YthnediamopehfaaGreatVAU
import Derived.Test.YthnediamopehfaaGreatVAV
import Derived.Test.YthnediamopehfaaGreatVAW
import Derived.Test.YthnediamopehfaaGreatVKnown
import Derived.Lib.SmallJoins
import Derived.Laws.CopyRow
import Derived.Laws.CopyOwn
import Derived.ArgAppend
set_option maxHeartbeats 1000000
set_option maxRecDepth 100000
set_option linter.unusedSimpArgs false
set_option linter.unusedVariables false
namespace Go.Proofs.YthnediamopehfaaGreat
open Go.RowKit
section
variable {P : Program} {ops : Array Oper} {Q : Exit → Act → World → Prop}
theorem says_not {ops : Array Oper} {N : Nat} {g : Nat → Value} {a : Act} (h : Holds' ops N g a) {j d : Nat} (hj : (ops[j]?).bind (·.dst) = some d) (hd : decide (d < N) = true) (hv : g d = undef) : yielded ops a.tmps j = none := by
  have h1 := (h.at' d hd).trans hv
  unfold yielded
  rw [hj]
  cases hx : a.tmps[d]? with
  | none => simp [hx]
  | some u =>
    rw [hx] at h1
    simp only [Option.getD_some] at h1
    subst h1
    simp [hx, undef]
theorem gdo2 {i j N d : Nat} {w1 c1 w2 c2 : Bool} {a : Act} {W W0 : World} {r : Rl} {s s0 : Nat → Nat} {g : Nat → Value} {o : Oper} (ho : ops[i]? = some o) (hg : o.guard = some (j, w2)) (ha : Holds' ops N g a) (hj : (ops[j]?).bind (·.dst) = some d) (hd : decide (d < N) = true)
    (hv : gd c1 w1 (is (.bool c2)) (g d) s0 W0)
    (h : c1 = w1 → c2 = w2 → ∀ K : Act → World → Prop, (∀ v W', Below W.heap.size W W' → r v s W' → K (a.put o.dst v) W') → o.wp P a W K Q) : OpDo P ops Q i a W (fun v W' => gd c1 w1 (gd c2 w2 r) v s W') := by
  by_cases h1 : c1 = w1
  · have hy := ha.says hj hd (hv.1 h1)
    have := opDo_guard (R := fun v W' => r v s W') ho hg hy (h h1)
    exact fun K hK => this K fun v W' hb hR => hK v W' hb ⟨fun _ => hR, fun e => absurd h1 e⟩
  · have hy := says_not ha hj hd (hv.2 h1)
    intro K hK
    unfold wpOp
    simp only [ho, Region.wanted, hg, hy]
    rw [ho] at hK
    rw [if_neg (by simp)]
    exact hK undef W (Below.refl _ _) ⟨fun e => absurd e h1, fun _ => rfl⟩
theorem gk {a : Act} {W : World} {o : Oper} {c : Bool} {v : Value} (hf : c = false → (execOp a.eval o).run P W = .ok (.value v) W) (ht : c = true → (execOp a.eval o).run P W = .ok (.value v) W) :
    ∀ K : Act → World → Prop, (∀ u W', Below W.heap.size W W' → u = v → K (a.put o.dst u) W') → o.wp P a W K Q := by
  cases c with
  | false => exact gv (hf rfl) rfl
  | true => exact gv (ht rfl) rfl
end
def IsPp (xs : List (Int × Int)) (v : Value) (W : World) : Prop := ∃ a c, v = .slice a xs.length c ∧ Pp W a xs.length c xs
theorem IsPp.below {xs : List (Int × Int)} {v : Value} {W W' : World} (h : IsPp xs v W) (hb : Below W.heap.size W W') : IsPp xs v W' := by
  obtain ⟨a, c, e, h⟩ := h; exact ⟨a, c, e, h.below hb (Nat.le_refl _)⟩
def NwIi (B : Nat) (xs : List Int) (v : Value) (W : World) : Prop := ∃ g c, v = .slice (some ⟨g, 0, none⟩) xs.length c ∧ Ii W (some ⟨g, 0, none⟩) xs.length c xs ∧ B ≤ g ∧ g < W.heap.size
theorem NwIi.below {B : Nat} {xs : List Int} {v : Value} {W W' : World} (h : NwIi B xs v W) (hb : Below W.heap.size W W') : NwIi B xs v W' := by
  obtain ⟨g, c, e, h, h1, h2⟩ := h; exact ⟨g, c, e, h.below hb (Nat.le_refl _), h1, Nat.lt_of_lt_of_le h2 hb.size⟩
theorem Behind.off {R : Nat → Value → (Nat → Nat) → World → Prop} {w : World} {n : Nat} {f : Nat → Value} {s : Nat → Nat} {W : World} (h : Behind R w n f s W) (i j : Nat) (hi : i < n) (hj : j < n) (hij : i ≠ j) {g : Nat}
    (hg : s i ≤ g) (h1 : ∀ W, R i (f i) s W → g < W.heap.size) (h2 : ∀ v s W, R j v s W → s j < W.heap.size) : g ≠ s j := by
  obtain ⟨t, ht, hd⟩ := h.apart
  obtain ⟨a, b, W1, r1, z1⟩ := ht i hi
  obtain ⟨c, d, W2, r2, z2⟩ := ht j hj
  have := h1 _ r1; have := h2 _ _ _ r2
  have := hd i j hi hj hij
  omega
open Go.RowKit
theorem clone_run (ty : TypeId) (W : World) (g : Nat) (a : Option Addr) (c : Nat) (xs : List Int) (h : Ii W a xs.length c xs) (hn : xs.length ≤ 1000) (hg : W.heap[g]? = some (.cells #[] 3 (0, 0))) (B : Nat) (hB : B ≤ g) (hB2 : B ≤ W.heap.size) :
    ∃ v W', (Builtin.append_ #[22, 22] ty #[.slice (some ⟨g, 0, none⟩) 0 0, .slice a xs.length c]).run Tryz.prog W = .ok v W' ∧ Below W.heap.size W W' ∧ NwIi B xs v W' := by
  obtain ⟨i0, hi, hz0, hz1, hz2⟩ := info_parts Tryz.info3x
  have hg' : g < W.heap.size := ltb hg
  by_cases hne : 0 < xs.length
  · obtain ⟨b, off, rfl, hb, hc⟩ := h.at hne
    obtain ⟨v, W', hr, hown, hgr⟩ := run_append_arg_grows (P := Tryz.prog) W 22 ty 3 i0 (.int .i64 0) 1 8 Tryz.underlying22 hi hz0 hz1 hz2 rfl (by decide) ⟨g, 0, none⟩ 0 0 [] rfl (fun j u hj => by simp at hj) ⟨b, off, none⟩ xs.length c (xs.map (Value.int .i64)) (by simp)
      (fun j u hj => by
        have hj' : j < xs.length := by
          rcases Nat.lt_or_ge j xs.length with h' | h'
          · exact h'
          · rw [List.getElem?_eq_none (by simpa using h')] at hj; cases hj
        rw [show ((⟨b, off, none⟩ : Addr).add j) = ⟨b, off + j, none⟩ from by unfold Addr.add; split <;> simp_all, hc j hj']
        simp [List.getElem?_map, hj'] at hj
        subst hj
        simp [List.getD_eq_getElem?_getD, hj'])
      (by omega) (by unfold maxLen; omega) (by omega)
    obtain ⟨g2, cap2, rfl⟩ := Joins.ownsRow_form hown (by omega)
    simp only [Nat.zero_add, List.nil_append] at hown hr
    exact ⟨_, W', hr, (Below.refl _ _).grown hgr (Nat.le_refl _) (fun k e => by cases e), g2, _, rfl, owns_ii (xs := xs) hown, Nat.le_trans hB2 (own_ge hown g2 rfl), own_lt' hown⟩
  · obtain rfl : xs = [] := by cases xs with | nil => rfl | cons x r => simp at hne
    have ii0 : Ii W (some ⟨g, 0, none⟩) 0 0 [] := ⟨rfl, Nat.le_refl _, by unfold maxLen; omega, by simp, .inl rfl⟩
    cases a with
    | none =>
      obtain rfl : c = 0 := h.2.2.2.1 rfl
      have hown : W.ownsRow 0 3 1 (.slice (some ⟨g, 0, none⟩) 0 0) 0 [] := ⟨rfl, .inr ⟨g, 0, #[], rfl, Nat.zero_le _, hg, Nat.le_refl _, by unfold maxLen; omega, rfl, rfl⟩⟩
      exact ⟨_, W, run_append_owned_none (P := Tryz.prog) W 0 22 ty 3 i0 1 Tryz.underlying22 hi _ 0 [] hown, Below.refl _ _, _, _, rfl, ii0, hB, hg'⟩
    | some ad =>
      have hr := run_append_room_cells (P := Tryz.prog) W 22 ty 3 i0 Tryz.underlying22 hi g 0 0 0 ad 0 c [] (by simp) (by simp) (by simp) (by omega) (by simp) (by simp)
      refine ⟨_, _, hr, ?_, g, _, rfl, ?_, hB, ?_⟩
      · simp [World.setCells]; exact Below.refl _ _
      · simp [World.setCells]; exact ii0
      · simp [World.setCells]; exact hg'
open Go.RowKit
def inB (n lo hi : Int) : Bool := decide (lo ≤ n) && decide (n ≤ hi)
open Go.RowKit
theorem copy_any (a1 a2 a3 : Option Addr) (c1 c2 c3 : Nat) (b : Bl) (w : World) (h1 : Ii w a1 b.panels.length c1 b.panels) (h2 : Ii w a2 b.top.length c2 b.top) (h3 : Ii w a3 b.bottom.length c3 b.bottom) (n1 : b.panels.length ≤ 1000) (n2 : b.top.length ≤ 1000) (n3 : b.bottom.length ≤ 1000) :
  Calls Tryz.prog 48 #[.agg #[.int .i64 b.tab, .slice a1 (b.panels.length) c1, .int .i64 b.height, .slice a2 (b.top.length) c2, .slice a3 (b.bottom.length) c3, .int .i64 b.slot, .bool b.isOpen]] w (NwBlkP b w) := by
 refine calls_fr Tryz.func48 Tryz.ntmps48 rfl rfl fun g hg => ?_
 have k0 : g 0 = .agg #[.int .i64 b.tab, .slice a1 (b.panels.length) c1, .int .i64 b.height, .slice a2 (b.top.length) c2, .slice a3 (b.bottom.length) c3, .int .i64 b.slot, .bool b.isOpen] := hg 0
 clear hg
 have fB0 : Below w.heap.size w w := Below.refl _ _
 refine rw_ 2 [(1, 0), (2, 1)] [[], []] (rel [bx 0 #[.int .i64 b.tab, .slice a1 (b.panels.length) c1, .int .i64 b.height, .slice a2 (b.top.length) c2, .slice a3 (b.bottom.length) c3, .int .i64 b.slot, .bool b.isOpen] 24, bx 1 #[.int .i64 0, .slice none 0 0, .int .i64 0, .slice none 0 0, .slice none 0 0, .int .i64 0, .bool false] 24])
  ⟨fun f s W c d i j a ha => opb rfl rfl (by simp [go_sem, ha.e 0 k0]),
  fun f s W c d i j a ha => opb rfl rfl (by simp [go_sem]), trivial⟩ ?_
 intro f1 s1 W1 hB1 g1 hg1 z1
 have fB1 := hB1.f fB0
 obtain ⟨r1_0, br1_0⟩ := hB1.is 0
 have lr1_0 := hB1.lr 0 br1_0
 obtain ⟨r1_1, br1_1⟩ := hB1.is 1
 have lr1_1 := hB1.lr 1 br1_1
 have ne1_0_1 : s1 0 ≠ s1 1 := hB1.ne 0 1 (by decide) (by decide) (by decide) (fun _ _ _ h => ltb h.2) (fun _ _ _ h => ltb h.2)
 have k1_1 := kt hg1 1 r1_0
 refine wp_seq_k fun K2 hK2 => ?_
 refine rz 13 [(3, 0), (4, 1), (5, 2), (6, 3), (7, 4), (8, 5), (9, 6), (10, 7), (11, 8), (12, 9), (13, 10), (14, 11), (15, 12), (16, 14), (17, 16)] [[], [], [1], [0, 1, 2], [], [], [5], [0, 1, 2, 3, 4, 5, 6], [], [], [9], [0, 1, 2, 3, 4, 5, 6, 7, 8, 9, 10], [], [0, 1, 2, 3, 4, 5, 6, 7, 8, 9, 10, 11, 12], [0, 1, 2, 3, 4, 5, 6, 7, 8, 9, 10, 11, 12, 13], [0, 1, 2, 3, 4, 5, 6, 7, 8, 9, 10, 11, 12, 13, 14], [0, 1, 2, 3, 4, 5, 6, 7, 8, 9, 10, 11, 12, 13, 14, 15], [0, 1, 2, 3, 4, 5, 6, 7, 8, 9, 10, 11, 12, 13, 14, 15, 16]] (rel [row 0 0 #[] 3, is (.pointer (some ⟨(s1 0), 1, none⟩)), is (.slice a1 (b.panels.length) c1), ab fun v W => NwIi W1.heap.size (b.panels) v W, row 4 0 #[] 3, is (.pointer (some ⟨(s1 0), 3, none⟩)), is (.slice a2 (b.top.length) c2), ab fun v W => NwIi W1.heap.size (b.top) v W, row 8 0 #[] 3, is (.pointer (some ⟨(s1 0), 4, none⟩)), is (.slice a3 (b.bottom.length) c3), ab fun v W => NwIi W1.heap.size (b.bottom) v W, is (.pointer (some ⟨(s1 0), 1, none⟩))])
  ⟨row_k, is_k, is_k, ab_k fun v W W' hb h => h.below hb, row_k, is_k, is_k, ab_k fun v W W' hb h => h.below hb, row_k, is_k, is_k, ab_k fun v W W' hb h => h.below hb, is_k, trivial⟩
  ⟨fun f s W c d i j a ha => opr rfl rfl (by simp [go_sem]),
  fun f s W c d i j a ha => opv rfl rfl (by simp [go_sem, ha.e 1 k1_1]) rfl,
  fun f s W c d i j a ha => opv rfl rfl (by simp [go_sem, ha.e 4 (d 1 rfl), cb br1_0 c 1]) rfl,
  fun f s W c d i j a ha => by have k := bwt fB1 c; obtain ⟨v_, W_, r_, b_, i_⟩ := clone_run 22 W (s 0) (a1) (c1) (b.panels) ((h1.below k (Nat.le_refl _))) (n1) (d 0 rfl).2 W1.heap.size (i 0 rfl) c.size; exact opDo_value rfl rfl (run_appendOp (ha.v 3 (d 0 rfl).1) (ha.v 5 (d 2 rfl)) r_) b_ i_,
  fun f s W c d i j a ha => opr rfl rfl (by simp [go_sem]),
  fun f s W c d i j a ha => opv rfl rfl (by simp [go_sem, ha.e 1 k1_1]) rfl,
  fun f s W c d i j a ha => opv rfl rfl (by simp [go_sem, ha.e 8 (d 5 rfl), cb br1_0 c 3]) rfl,
  fun f s W c d i j a ha => by have k := bwt fB1 c; obtain ⟨v_, W_, r_, b_, i_⟩ := clone_run 22 W (s 4) (a2) (c2) (b.top) ((h2.below k (Nat.le_refl _))) (n2) (d 4 rfl).2 W1.heap.size (i 4 rfl) c.size; exact opDo_value rfl rfl (run_appendOp (ha.v 7 (d 4 rfl).1) (ha.v 9 (d 6 rfl)) r_) b_ i_,
  fun f s W c d i j a ha => opr rfl rfl (by simp [go_sem]),
  fun f s W c d i j a ha => opv rfl rfl (by simp [go_sem, ha.e 1 k1_1]) rfl,
  fun f s W c d i j a ha => opv rfl rfl (by simp [go_sem, ha.e 12 (d 9 rfl), cb br1_0 c 4]) rfl,
  fun f s W c d i j a ha => by have k := bwt fB1 c; obtain ⟨v_, W_, r_, b_, i_⟩ := clone_run 22 W (s 8) (a3) (c3) (b.bottom) ((h3.below k (Nat.le_refl _))) (n3) (d 8 rfl).2 W1.heap.size (i 8 rfl) c.size; exact opDo_value rfl rfl (run_appendOp (ha.v 11 (d 8 rfl).1) (ha.v 13 (d 10 rfl)) r_) b_ i_,
  fun f s W c d i j a ha => opv rfl rfl (by simp [go_sem, ha.e 1 k1_1]) rfl, trivial⟩ ?_
 intro f2 s2 W2 hB2 g2 hg2 z2
 have fB2 := hB2.f fB1
 have b2_0 := hB2.b br1_0
 have b2_1 := hB2.b br1_1
 obtain ⟨r2_0, br2_0⟩ := hB2.is 0
 have lr2_0 := hB2.lr 0 br2_0
 obtain ⟨g1', c2', r2_3, q3', q5', q4'⟩ := hB2.is 3
 obtain ⟨r2_4, br2_4⟩ := hB2.is 4
 have lr2_4 := hB2.lr 4 br2_4
 obtain ⟨g6', c7', r2_7, q8', q10', q9'⟩ := hB2.is 7
 obtain ⟨r2_8, br2_8⟩ := hB2.is 8
 have lr2_8 := hB2.lr 8 br2_8
 obtain ⟨g11', c12', r2_11, q13', q15', q14'⟩ := hB2.is 11
 have ne2_0_4 : s2 0 ≠ s2 4 := hB2.ne 0 4 (by decide) (by decide) (by decide) (fun _ _ _ h => ltb h.2) (fun _ _ _ h => ltb h.2)
 have ne2_0_8 : s2 0 ≠ s2 8 := hB2.ne 0 8 (by decide) (by decide) (by decide) (fun _ _ _ h => ltb h.2) (fun _ _ _ h => ltb h.2)
 have ne2_4_8 : s2 4 ≠ s2 8 := hB2.ne 4 8 (by decide) (by decide) (by decide) (fun _ _ _ h => ltb h.2) (fun _ _ _ h => ltb h.2)
 have k2_1 := kt hg2 1 k1_1
 have k2_6 := kt hg2 6 r2_3
 have k2_15 := kt hg2 15 (hB2.is 12)
 obtain ⟨W3, hW3⟩ : ∃ W', W' = W2.setRow (s1 0) #[.int .i64 b.tab, .slice (some ⟨g1', 0, none⟩) ((b.panels).length) (c2'), .int .i64 b.height, .slice a2 (b.top.length) c2, .slice a3 (b.bottom.length) c3, .int .i64 b.slot, .bool b.isOpen] := ⟨_, rfl⟩
 refine tsk (o := _) rfl ⟨rfl, rfl⟩ (run_seg hW3 (fr_ev k2_15) (fr_ev k2_6) b2_0 rfl rfl rfl rfl) ?_
 obtain ⟨fB3, nb3, ot3, z3⟩ := sgf hW3 fB2 b2_0 (by omega)
 clear hW3
 have b3_1 := ot3 _ _ (by omega) b2_1
 have q16' := (q3'.other ot3 q4' (by omega) z3)
 have q17' := Nat.lt_of_lt_of_le q4' z3
 have q18' := (q8'.other ot3 q9' (by omega) z3)
 have q19' := Nat.lt_of_lt_of_le q9' z3
 have q20' := (q13'.other ot3 q14' (by omega) z3)
 have q21' := Nat.lt_of_lt_of_le q14' z3
 refine tail_value (o := _) rfl rfl rfl (v := .pointer (some ⟨(s1 0), 3, none⟩)) (by simp [go_sem, frv 19 k2_1]) ?_
 generalize hg4 : upd g2 16 (.pointer (some ⟨(s1 0), 3, none⟩)) = g4
 have k4_1 := ku hg4 1 k2_1
 have k4_10 := ku hg4 10 (kt hg2 10 r2_7)
 have k4_16 := kt hg4 16 (upd_same _ _ _)
 obtain ⟨W5, hW5⟩ : ∃ W', W' = W3.setRow (s1 0) #[.int .i64 b.tab, .slice (some ⟨g1', 0, none⟩) ((b.panels).length) (c2'), .int .i64 b.height, .slice (some ⟨g6', 0, none⟩) ((b.top).length) (c7'), .slice a3 (b.bottom.length) c3, .int .i64 b.slot, .bool b.isOpen] := ⟨_, rfl⟩
 refine tsk (o := _) rfl ⟨rfl, rfl⟩ (run_seg hW5 (fr_ev k4_16) (fr_ev k4_10) nb3 rfl rfl rfl rfl) ?_
 obtain ⟨fB5, nb5, ot5, z5⟩ := sgf hW5 fB3 nb3 (by omega)
 clear hW5
 have b5_1 := ot5 _ _ (by omega) b3_1
 have q22' := (q16'.other ot5 q17' (by omega) z5)
 have q23' := Nat.lt_of_lt_of_le q17' z5
 have q24' := (q18'.other ot5 q19' (by omega) z5)
 have q25' := Nat.lt_of_lt_of_le q19' z5
 have q26' := (q20'.other ot5 q21' (by omega) z5)
 have q27' := Nat.lt_of_lt_of_le q21' z5
 refine tail_value (o := _) rfl rfl rfl (v := .pointer (some ⟨(s1 0), 4, none⟩)) (by simp [go_sem, frv 19 k4_1]) ?_
 generalize hg6 : upd g4 17 (.pointer (some ⟨(s1 0), 4, none⟩)) = g6
 have k6_1 := ku hg6 1 k4_1
 have k6_14 := ku hg6 14 (ku hg4 14 (kt hg2 14 r2_11))
 have k6_17 := kt hg6 17 (upd_same _ _ _)
 obtain ⟨W7, hW7⟩ : ∃ W', W' = W5.setRow (s1 0) #[.int .i64 b.tab, .slice (some ⟨g1', 0, none⟩) ((b.panels).length) (c2'), .int .i64 b.height, .slice (some ⟨g6', 0, none⟩) ((b.top).length) (c7'), .slice (some ⟨g11', 0, none⟩) ((b.bottom).length) (c12'), .int .i64 b.slot, .bool b.isOpen] := ⟨_, rfl⟩
 refine tsk (o := _) rfl ⟨rfl, rfl⟩ (run_seg hW7 (fr_ev k6_17) (fr_ev k6_14) nb5 rfl rfl rfl rfl) ?_
 obtain ⟨fB7, nb7, ot7, z7⟩ := sgf hW7 fB5 nb5 (by omega)
 clear hW7
 have b7_1 := ot7 _ _ (by omega) b5_1
 have q28' := (q22'.other ot7 q23' (by omega) z7)
 have q29' := Nat.lt_of_lt_of_le q23' z7
 have q30' := (q24'.other ot7 q25' (by omega) z7)
 have q31' := Nat.lt_of_lt_of_le q25' z7
 have q32' := (q26'.other ot7 q27' (by omega) z7)
 have q33' := Nat.lt_of_lt_of_le q27' z7
 refine wpe ?_
 refine hK2 _ _ ?_
 refine wp_seq_k fun K3 hK3 => ?_
 refine ry 1 [(18, 0)] [[], [0]] (rel [is (.agg #[.int .i64 b.tab, .slice (some ⟨g1', 0, none⟩) ((b.panels).length) (c2'), .int .i64 b.height, .slice (some ⟨g6', 0, none⟩) ((b.top).length) (c7'), .slice (some ⟨g11', 0, none⟩) ((b.bottom).length) (c12'), .int .i64 b.slot, .bool b.isOpen])])
  ⟨fun f s W c d i j a ha => opv rfl rfl (by simp [go_sem, ha.e 1 k6_1, cb nb7 c 0, cb nb7 c 1, cb nb7 c 2, cb nb7 c 3, cb nb7 c 4, cb nb7 c 5, cb nb7 c 6]) rfl, trivial⟩ ?_
 intro f8 s8 W8 hB8 g8 hg8 z8
 have fB8 := hB8.f fB7
 have b8_1 := hB8.b b7_1
 have q34' := q28'.bw hB8
 have q35' := (hB8.lt q29')
 have q36' := q30'.bw hB8
 have q37' := (hB8.lt q31')
 have q38' := q32'.bw hB8
 have q39' := (hB8.lt q33')
 have k8_2 := kt hg8 2 (ku hg6 2 (ku hg4 2 (kt hg2 2 (kt hg1 2 r1_1))))
 have k8_18 := kt hg8 18 (hB8.is 0)
 obtain ⟨W9, hW9⟩ : ∃ W', W' = W8.setRow (s1 1) #[.int .i64 b.tab, .slice (some ⟨g1', 0, none⟩) ((b.panels).length) (c2'), .int .i64 b.height, .slice (some ⟨g6', 0, none⟩) ((b.top).length) (c7'), .slice (some ⟨g11', 0, none⟩) ((b.bottom).length) (c12'), .int .i64 b.slot, .bool b.isOpen] := ⟨_, rfl⟩
 refine tsk (o := _) rfl ⟨rfl, rfl⟩ (run_seg hW9 (fr_ev k8_2) (fr_ev k8_18) b8_1 rfl rfl rfl rfl) ?_
 obtain ⟨fB9, nb9, ot9, z9⟩ := sgf hW9 fB8 b8_1 (by omega)
 clear hW9
 have q40' := (q34'.other ot9 q35' (by omega) z9)
 have q41' := Nat.lt_of_lt_of_le q35' z9
 have q42' := (q36'.other ot9 q37' (by omega) z9)
 have q43' := Nat.lt_of_lt_of_le q37' z9
 have q44' := (q38'.other ot9 q39' (by omega) z9)
 have q45' := Nat.lt_of_lt_of_le q39' z9
 refine wpe ?_
 refine hK3 _ _ ?_
 refine wp_ret ?_
 refine leave_gen (v := .agg #[.int .i64 b.tab, .slice (some ⟨g1', 0, none⟩) ((b.panels).length) (c2'), .int .i64 b.height, .slice (some ⟨g6', 0, none⟩) ((b.top).length) (c7'), .slice (some ⟨g11', 0, none⟩) ((b.bottom).length) (c12'), .int .i64 b.slot, .bool b.isOpen]) (.inr rfl) (by simp [results, Tryz.results48, go_sem, frv 19 k8_2, cl nb9 0, cl nb9 1, cl nb9 2, cl nb9 3, cl nb9 4, cl nb9 5, cl nb9 6]) ?_
 exact ⟨_, rfl, ⟨_, _, _, _, _, _, rfl, ⟨q40', by omega, q41'⟩, ⟨q42', by omega, q43'⟩, ⟨q44', by omega, q45'⟩⟩, fB9⟩
open Go.RowKit
theorem own_any (a1 a2 a3 : Option Addr) (c1 c2 c3 : Nat) (b : Bl) (w : World) (h1 : Ii w a1 b.panels.length c1 b.panels) (h2 : Ii w a2 b.top.length c2 b.top) (h3 : Ii w a3 b.bottom.length c3 b.bottom) (n1 : b.panels.length ≤ 1000) (n2 : b.top.length ≤ 1000) (n3 : b.bottom.length ≤ 1000) :
  Calls Tryz.prog 13 #[.agg #[.int .i64 b.tab, .slice a1 (b.panels.length) c1, .int .i64 b.height, .slice a2 (b.top.length) c2, .slice a3 (b.bottom.length) c3, .int .i64 b.slot, .bool b.isOpen]] w (NwBlkP b w) := by
 refine calls_fr Tryz.func13 Tryz.ntmps13 rfl rfl fun g hg => ?_
 have k0 : g 0 = .agg #[.int .i64 b.tab, .slice a1 (b.panels.length) c1, .int .i64 b.height, .slice a2 (b.top.length) c2, .slice a3 (b.bottom.length) c3, .int .i64 b.slot, .bool b.isOpen] := hg 0
 clear hg
 have fB0 : Below w.heap.size w w := Below.refl _ _
 refine rw_ 2 [(1, 0), (2, 1)] [[], []] (rel [bx 0 #[.int .i64 b.tab, .slice a1 (b.panels.length) c1, .int .i64 b.height, .slice a2 (b.top.length) c2, .slice a3 (b.bottom.length) c3, .int .i64 b.slot, .bool b.isOpen] 24, bx 1 #[.int .i64 0, .slice none 0 0, .int .i64 0, .slice none 0 0, .slice none 0 0, .int .i64 0, .bool false] 24])
  ⟨fun f s W c d i j a ha => opb rfl rfl (by simp [go_sem, ha.e 0 k0]),
  fun f s W c d i j a ha => opb rfl rfl (by simp [go_sem]), trivial⟩ ?_
 intro f1 s1 W1 hB1 g1 hg1 z1
 have fB1 := hB1.f fB0
 obtain ⟨r1_0, br1_0⟩ := hB1.is 0
 have lr1_0 := hB1.lr 0 br1_0
 obtain ⟨r1_1, br1_1⟩ := hB1.is 1
 have lr1_1 := hB1.lr 1 br1_1
 have ne1_0_1 : s1 0 ≠ s1 1 := hB1.ne 0 1 (by decide) (by decide) (by decide) (fun _ _ _ h => ltb h.2) (fun _ _ _ h => ltb h.2)
 have k1_1 := kt hg1 1 r1_0
 refine wp_seq_k fun K2 hK2 => ?_
 refine rz 2 [(3, 0), (4, 1)] [[], [0], [0, 1]] (rel [is (.agg #[.int .i64 b.tab, .slice a1 (b.panels.length) c1, .int .i64 b.height, .slice a2 (b.top.length) c2, .slice a3 (b.bottom.length) c3, .int .i64 b.slot, .bool b.isOpen]), fun v s W => NwBlk (s 1) (b) v W])
  ⟨is_k, ⟨fun v k W W' hb h => h.below hb, fun v s s' W e h => by have h' : NwBlk (s 1) (b) v W := h; show NwBlk (s' 1) (b) v W; rw [← e 1 (by simp)]; exact h'⟩, trivial⟩
  ⟨fun f s W c d i j a ha => opv rfl rfl (by simp [go_sem, ha.e 1 k1_1, cb br1_0 c 0, cb br1_0 c 1, cb br1_0 c 2, cb br1_0 c 3, cb br1_0 c 4, cb br1_0 c 5, cb br1_0 c 6]) rfl,
  fun f s W c d i j a ha => by have l := bwt fB1 c; exact opd rfl rfl (by simp [go_sem, ha.e 3 (d 0 rfl)]) (copy_any a1 a2 a3 c1 c2 c3 b W (h1.below l (Nat.le_refl _)) (h2.below l (Nat.le_refl _)) (h3.below l (Nat.le_refl _)) n1 n2 n3) (fun e W' h => by obtain ⟨v, e1, h1, h2⟩ := h; exact ⟨v, e1, h2, (show NwBlk (upd s 1 W.heap.size 1) (b) v W' from by rw [upd_at]; exact h1)⟩), trivial⟩ ?_
 intro f2 s2 W2 hB2 g2 hg2 z2
 have fB2 := hB2.f fB1
 have b2_1 := hB2.b br1_1
 obtain ⟨g1', c4', g2', c5', g3', c6', r2_1, ⟨q7', q9', q8'⟩, ⟨q10', q12', q11'⟩, ⟨q13', q15', q14'⟩⟩ := hB2.is 1
 have la2_1 := hB2.from' 1 (by decide)
 have k2_2 := kt hg2 2 (kt hg1 2 r1_1)
 have k2_4 := kt hg2 4 r2_1
 obtain ⟨W3, hW3⟩ : ∃ W', W' = W2.setRow (s1 1) #[.int .i64 b.tab, .slice (some ⟨g1', 0, none⟩) (b.panels.length) c4', .int .i64 b.height, .slice (some ⟨g2', 0, none⟩) (b.top.length) c5', .slice (some ⟨g3', 0, none⟩) (b.bottom.length) c6', .int .i64 b.slot, .bool b.isOpen] := ⟨_, rfl⟩
 refine tsk (o := _) rfl ⟨rfl, rfl⟩ (run_seg hW3 (fr_ev k2_2) (fr_ev k2_4) b2_1 rfl rfl rfl rfl) ?_
 obtain ⟨fB3, nb3, ot3, z3⟩ := sgf hW3 fB2 b2_1 (by omega)
 clear hW3
 have q16' := (q7'.other ot3 q8' (by omega) z3)
 have q17' := Nat.lt_of_lt_of_le q8' z3
 have q18' := (q10'.other ot3 q11' (by omega) z3)
 have q19' := Nat.lt_of_lt_of_le q11' z3
 have q20' := (q13'.other ot3 q14' (by omega) z3)
 have q21' := Nat.lt_of_lt_of_le q14' z3
 refine wpe ?_
 refine hK2 _ _ ?_
 refine wp_ret ?_
 refine leave_gen (v := .agg #[.int .i64 b.tab, .slice (some ⟨g1', 0, none⟩) (b.panels.length) c4', .int .i64 b.height, .slice (some ⟨g2', 0, none⟩) (b.top.length) c5', .slice (some ⟨g3', 0, none⟩) (b.bottom.length) c6', .int .i64 b.slot, .bool b.isOpen]) (.inr rfl) (by simp [results, Tryz.results13, go_sem, frv 5 k2_2, cl nb3 0, cl nb3 1, cl nb3 2, cl nb3 3, cl nb3 4, cl nb3 5, cl nb3 6]) ?_
 exact ⟨_, rfl, ⟨_, _, _, _, _, _, rfl, ⟨q16', by omega, q17'⟩, ⟨q18', by omega, q19'⟩, ⟨q20', by omega, q21'⟩⟩, fB3⟩
open Go.RowKit
theorem BlankP.bad {z : Bl} {c er : Int} {w w' : World} {e : Ending} (h : er ≠ 0) (he : e = .returned (.tuple #[zeroBl, .int .i64 c, .int .i64 er])) (hb : Below w.heap.size w w') : BlankP (z, c, er) w e w' := ⟨fun h' => absurd h' h, fun _ => ⟨he, hb⟩⟩
theorem blank_bad (l1 h1 l2 h2 l3 h3 l4 h4 l5 h5 clo chi : Int) (wo : Bool) (tab : Int) (w : World) (hbad : (wishErr ⟨(l1, h1), (l2, h2), (l3, h3), (l4, h4), (l5, h5), wo⟩ == 0) = true → (checkedErr [] [(clo, chi)] != 0) = false → (!(within 0 100 [tab])) = true) :
  Calls Tryz.prog 28 #[.agg #[.int .i64 l1, .int .i64 h1, .int .i64 l2, .int .i64 h2, .int .i64 l3, .int .i64 h3, .int .i64 l4, .int .i64 h4, .int .i64 l5, .int .i64 h5, .bool wo], .agg #[.int .i64 clo, .int .i64 chi], .int .i64 tab] w (BlankP (blankAll ⟨(l1, h1), (l2, h2), (l3, h3), (l4, h4), (l5, h5), wo⟩ clo chi tab) w) := by
 refine calls_fr Tryz.func28 Tryz.ntmps28 rfl rfl fun g hg => ?_
 have k0 : g 0 = .agg #[.int .i64 l1, .int .i64 h1, .int .i64 l2, .int .i64 h2, .int .i64 l3, .int .i64 h3, .int .i64 l4, .int .i64 h4, .int .i64 l5, .int .i64 h5, .bool wo] := hg 0
 have k1 : g 1 = .agg #[.int .i64 clo, .int .i64 chi] := hg 1
 have k2 : g 2 = .int .i64 tab := hg 2
 clear hg
 have fB0 : Below w.heap.size w w := Below.refl _ _
 refine rw_ 5 [(3, 0), (4, 1), (6, 2), (7, 3), (8, 4)] [[], [], [], [], []] (rel [bx 0 #[.int .i64 l1, .int .i64 h1, .int .i64 l2, .int .i64 h2, .int .i64 l3, .int .i64 h3, .int .i64 l4, .int .i64 h4, .int .i64 l5, .int .i64 h5, .bool wo] 43, bx 1 #[.int .i64 clo, .int .i64 chi] 26, bx 2 #[.int .i64 0, .slice none 0 0, .int .i64 0, .slice none 0 0, .slice none 0 0, .int .i64 0, .bool false] 24, iI 0, iI 0])
  ⟨fun f s W c d hs i j a => opb rfl rfl (by simp [go_sem, a.e 0 k0]),
  fun f s W c d hs i j a => opb rfl rfl (by simp [go_sem, a.e 1 k1]),
  fun f s W c d hs i j a => opb rfl rfl (by simp [go_sem]),
  fun f s W c d hs i j a => opz,
  fun f s W c d hs i j a => opz, trivial⟩ ?_
 intro f1 s1 W1 hB1 g1 hg1 z1
 obtain ⟨r1_0, br1_0⟩ := hB1.is 0
 have lr1_0 := hB1.lr 0 br1_0
 obtain ⟨r1_1, br1_1⟩ := hB1.is 1
 have lr1_1 := hB1.lr 1 br1_1
 obtain ⟨r1_2, br1_2⟩ := hB1.is 2
 have lr1_2 := hB1.lr 2 br1_2
 have ne1_0_1 : s1 0 ≠ s1 1 := hB1.ne 0 1 (by decide) (by decide) (by decide) (fun _ _ _ h => ltb h.2) (fun _ _ _ h => ltb h.2)
 have ne1_0_2 : s1 0 ≠ s1 2 := hB1.ne 0 2 (by decide) (by decide) (by decide) (fun _ _ _ h => ltb h.2) (fun _ _ _ h => ltb h.2)
 have ne1_1_2 : s1 1 ≠ s1 2 := hB1.ne 1 2 (by decide) (by decide) (by decide) (fun _ _ _ h => ltb h.2) (fun _ _ _ h => ltb h.2)
 have k1_3 := kt hg1 3 r1_0
 refine rw_ 3 [(9, 0), (10, 1), (8, 2)] [[], [0], [1]] (rel [is (.agg #[.int .i64 l1, .int .i64 h1, .int .i64 l2, .int .i64 h2, .int .i64 l3, .int .i64 h3, .int .i64 l4, .int .i64 h4, .int .i64 l5, .int .i64 h5, .bool wo]), iI (wishErr ⟨(l1, h1), (l2, h2), (l3, h3), (l4, h4), (l5, h5), wo⟩), iI (wishErr ⟨(l1, h1), (l2, h2), (l3, h3), (l4, h4), (l5, h5), wo⟩)])
  ⟨fun f s W c d hs i j a => opv rfl rfl (by simp [go_sem, a.e 3 k1_3, cb br1_0 c 0, cb br1_0 c 1, cb br1_0 c 2, cb br1_0 c 3, cb br1_0 c 4, cb br1_0 c 5, cb br1_0 c 6, cb br1_0 c 7, cb br1_0 c 8, cb br1_0 c 9, cb br1_0 c 10]) rfl,
  fun f s W c d hs i j a => opc rfl rfl (by simp [go_sem, a.e 9 (d 0 rfl)]) (wish_any l1 h1 l2 h2 l3 h3 l4 h4 l5 h5 wo W),
  fun f s W c d hs i j a => opm (a.v 10 (d 1 rfl)), trivial⟩ ?_
 intro f2 s2 W2 hB2 g2 hg2 z2
 have k2_8 := kt hg2 8 (hB2.is 2)
 refine wp_seq_k fun K3 hK3 => ?_
 refine rw_ 2 [(11, 0), (12, 1)] [[], [0]] (rel [iI (wishErr ⟨(l1, h1), (l2, h2), (l3, h3), (l4, h4), (l5, h5), wo⟩), iB ((wishErr ⟨(l1, h1), (l2, h2), (l3, h3), (l4, h4), (l5, h5), wo⟩) == 0)])
  ⟨fun f s W c d hs i j a => opm (a.v 8 k2_8),
  fun f s W c d hs i j a => opv rfl rfl (by simp [go_sem, a.e 11 (d 0 rfl)]) rfl, trivial⟩ ?_
 intro f3 s3 W3 hB3 g3 hg3 z3
 have fB3 := hB3.f (hB2.f (hB1.f fB0))
 have b3_1 := hB3.b (hB2.b br1_1)
 have b3_2 := hB3.b (hB2.b br1_2)
 have k3_4 := kt hg3 4 (kt hg2 4 (kt hg1 4 r1_1))
 have k3_6 := kt hg3 6 (kt hg2 6 (kt hg1 6 r1_2))
 have k3_8 := kt hg3 8 k2_8
 have k3_12 := kt hg3 12 (hB3.is 1)
 refine wp_cond_split (t := (wishErr ⟨(l1, h1), (l2, h2), (l3, h3), (l4, h4), (l5, h5), wo⟩) == 0) ((fr_eval rfl).trans k3_12) (fun hc5 => ?_) (fun hc5 => ?_)
 ·
  have hc5' := hc5; try simp only [ba] at hc5'
  refine ry 4 [(13, 0), (14, 1), (15, 2), (8, 3)] [[], [0], [1], [2]] (rel [is (.agg #[.int .i64 clo, .int .i64 chi]), row 1 1 #[.int .i64 clo, .int .i64 chi] 26, iI (checkedErr [] [(clo, chi)]), iI (checkedErr [] [(clo, chi)])])
   ⟨fun f s W c d hs i j a => opv rfl rfl (by simp [go_sem, a.e 4 k3_4, cb b3_1 c 0, cb b3_1 c 1]) rfl,
  fun f s W c d hs i j a => opr rfl rfl (by simp [go_sem, a.e 13 (d 0 rfl)]),
  fun f s W c d hs i j a => opc (args := #[.slice none 0 0, .slice (some ⟨(s 1), 0, none⟩) (1) (1)]) rfl rfl (by simp [go_sem, a.e 14 (d 1 rfl).1]) (checked_none _ _ _ [(clo, chi)] W (pp_block (xs := [(clo, chi)]) (d 1 rfl).2 rfl rfl)),
  fun f s W c d hs i j a => opm (a.v 15 (d 2 rfl)), trivial⟩ ?_
  intro f4 s4 W4 hB4 g4 hg4 z4
  obtain ⟨r4_1, br4_1⟩ := hB4.is 1
  have lr4_1 := hB4.lr 1 br4_1
  refine hK3 _ _ ?_
  have k4_8 := kt hg4 8 (hB4.is 3)
  refine wp_seq_k fun K6 hK6 => ?_
  refine wp_block ?_
  refine rw_ 3 [(17, 0), (18, 1), (16, 2)] [[], [0], [1]] (rel [iI (checkedErr [] [(clo, chi)]), iB ((checkedErr [] [(clo, chi)]) != 0), iB ((checkedErr [] [(clo, chi)]) != 0)])
   ⟨fun f s W c d hs i j a => opm (a.v 8 k4_8),
  fun f s W c d hs i j a => opv rfl rfl (by simp [go_sem, a.e 17 (d 0 rfl)]) rfl,
  fun f s W c d hs i j a => opm (a.v 18 (d 1 rfl)), trivial⟩ ?_
  intro f5 s5 W5 hB5 g5 hg5 z5
  have fB5 := hB5.f (hB4.f fB3)
  have b5_2 := hB5.b (hB4.b b3_2)
  have k5_2 := kt hg5 2 (kt hg4 2 (kt hg3 2 (kt hg2 2 (kt hg1 2 k2))))
  have k5_6 := kt hg5 6 (kt hg4 6 k3_6)
  have k5_8 := kt hg5 8 k4_8
  have k5_16 := kt hg5 16 (hB5.is 2)
  refine wp_cond_split (t := (checkedErr [] [(clo, chi)]) != 0) ((fr_eval rfl).trans k5_16) (fun hc8 => ?_) (fun hc8 => ?_)
  ·
   have hc8' := hc8; try simp only [ba] at hc8'
   refine rw_ 5 [(19, 0), (20, 1), (7, 3), (8, 4)] [[], [], [0], [], [1]] (rel [is (.agg #[.int .i64 0, .slice none 0 0, .int .i64 0, .slice none 0 0, .slice none 0 0, .int .i64 0, .bool false]), iI (checkedErr [] [(clo, chi)]), is (undef), iI 0, iI (checkedErr [] [(clo, chi)])])
    ⟨fun f s W c d hs i j a => opv rfl rfl (by simp [go_sem, a.e 6 k5_6, cb b5_2 c 0, cb b5_2 c 1, cb b5_2 c 2, cb b5_2 c 3, cb b5_2 c 4, cb b5_2 c 5, cb b5_2 c 6]) rfl,
  fun f s W c d hs i j a => opm (a.v 8 ((i 4 8 rfl rfl).trans k5_8)),
  fun f s W c d hs i j a => ops_same rfl ⟨rfl, rfl⟩ (run_seg (setRow_self W _ _ _ _ (bwb b5_2 c)).symm (a.v 6 k5_6) (a.v 19 (d 0 rfl)) (bwb b5_2 c) rfl rfl rfl rfl),
  fun f s W c d hs i j a => opz,
  fun f s W c d hs i j a => opm (a.v 20 (d 1 rfl)), trivial⟩ ?_
   intro f6 s6 W6 hB6 g6 hg6 z6
   have fB6 := hB6.f fB5
   have b6_2 := hB6.b b5_2
   have k6_6 := kt hg6 6 k5_6
   have k6_7 := kt hg6 7 (hB6.is 3)
   have k6_8 := kt hg6 8 (hB6.is 4)
   refine wp_ret ?_
   refine inBlock_ret (then_ret ?_)
   refine leave_gen (v := .tuple #[.agg #[.int .i64 0, .slice none 0 0, .int .i64 0, .slice none 0 0, .slice none 0 0, .int .i64 0, .bool false], .int .i64 0, .int .i64 (checkedErr [] [(clo, chi)])]) (.inr rfl) (by simp [results, Tryz.results28, go_sem, frv 35 k6_6, cl b6_2 0, cl b6_2 1, cl b6_2 2, cl b6_2 3, cl b6_2 4, cl b6_2 5, cl b6_2 6, frv 35 k6_7, frv 35 k6_8]) ?_
   have hs : blankAll ⟨(l1, h1), (l2, h2), (l3, h3), (l4, h4), (l5, h5), wo⟩ clo chi tab = (⟨0, [], 0, [], [], 0, false⟩, 0, checkedErr [] [(clo, chi)]) := by simp only [blankAll, hc5, hc8, if_true, if_false, Bool.false_eq_true]
   rw [hs]
   exact BlankP.bad (by have h' := hc8; simpa using h') rfl fB6
  ·
   have hc8' := hc8; try simp only [ba] at hc8'
   refine rw_ 5 [(22, 0), (23, 1), (24, 2), (25, 3), (21, 4)] [[], [0], [1], [2], [3]] (rel [iI tab, row 1 1 #[.int .i64 tab] 3, iB (within 0 100 [tab]), iB (!(within 0 100 [tab])), iB (!(within 0 100 [tab]))])
    ⟨fun f s W c d hs i j a => opm (a.v 2 k5_2),
  fun f s W c d hs i j a => opr rfl rfl (by simp [go_sem, a.e 22 (d 0 rfl)]),
  fun f s W c d hs i j a => opc (args := #[.int .i64 0, .int .i64 100, .slice (some ⟨(s 1), 0, none⟩) (1) (1)]) rfl rfl (by simp [go_sem, a.e 23 (d 1 rfl).1]) (within_any 0 100 _ _ _ [tab] W (ii_block (xs := [tab]) (d 1 rfl).2 rfl rfl)),
  fun f s W c d hs i j a => opv rfl rfl (by simp [go_sem, a.e 24 (d 2 rfl)]) rfl,
  fun f s W c d hs i j a => opm (a.v 25 (d 3 rfl)), trivial⟩ ?_
   intro f7 s7 W7 hB7 g7 hg7 z7
   have fB7 := hB7.f fB5
   have b7_2 := hB7.b b5_2
   obtain ⟨r7_1, br7_1⟩ := hB7.is 1
   have lr7_1 := hB7.lr 1 br7_1
   have k7_6 := kt hg7 6 k5_6
   have k7_21 := kt hg7 21 (hB7.is 4)
   refine wp_cond_split (t := !(within 0 100 [tab])) ((fr_eval rfl).trans k7_21) (fun hc11 => ?_) (fun hc11 => ?_)
   ·
    have hc11' := hc11; try simp only [ba] at hc11'
    refine rw_ 4 [(26, 0), (7, 2), (8, 3)] [[], [0], [], []] (rel [is (.agg #[.int .i64 0, .slice none 0 0, .int .i64 0, .slice none 0 0, .slice none 0 0, .int .i64 0, .bool false]), is (undef), iI 0, iI 5])
     ⟨fun f s W c d hs i j a => opv rfl rfl (by simp [go_sem, a.e 6 k7_6, cb b7_2 c 0, cb b7_2 c 1, cb b7_2 c 2, cb b7_2 c 3, cb b7_2 c 4, cb b7_2 c 5, cb b7_2 c 6]) rfl,
  fun f s W c d hs i j a => ops_same rfl ⟨rfl, rfl⟩ (run_seg (setRow_self W _ _ _ _ (bwb b7_2 c)).symm (a.v 6 k7_6) (a.v 26 (d 0 rfl)) (bwb b7_2 c) rfl rfl rfl rfl),
  fun f s W c d hs i j a => opz,
  fun f s W c d hs i j a => opz, trivial⟩ ?_
    intro f8 s8 W8 hB8 g8 hg8 z8
    have fB8 := hB8.f fB7
    have b8_2 := hB8.b b7_2
    have k8_6 := kt hg8 6 k7_6
    have k8_7 := kt hg8 7 (hB8.is 2)
    have k8_8 := kt hg8 8 (hB8.is 3)
    refine wp_ret ?_
    refine inBlock_ret (then_ret ?_)
    refine leave_gen (v := .tuple #[.agg #[.int .i64 0, .slice none 0 0, .int .i64 0, .slice none 0 0, .slice none 0 0, .int .i64 0, .bool false], .int .i64 0, .int .i64 5]) (.inr rfl) (by simp [results, Tryz.results28, go_sem, frv 35 k8_6, cl b8_2 0, cl b8_2 1, cl b8_2 2, cl b8_2 3, cl b8_2 4, cl b8_2 5, cl b8_2 6, frv 35 k8_7, frv 35 k8_8]) ?_
    have hs : blankAll ⟨(l1, h1), (l2, h2), (l3, h3), (l4, h4), (l5, h5), wo⟩ clo chi tab = (⟨0, [], 0, [], [], 0, false⟩, 0, 5) := by simp only [blankAll, hc5, hc8, hc11, if_true, if_false, Bool.false_eq_true]
    rw [hs]
    exact BlankP.bad (by decide) rfl fB8
   ·
    have hc11' := hc11; try simp only [ba] at hc11'
    exact absurd (hbad hc5 hc8) (by rw [hc11]; decide)
    -- done
 ·
  have hc5' := hc5; try simp only [ba] at hc5'
  have hne_ : ((wishErr ⟨(l1, h1), (l2, h2), (l3, h3), (l4, h4), (l5, h5), wo⟩) != 0) = true := by simpa [bne] using hc5
  refine wp_skip ?_
  refine hK3 _ _ ?_
  refine wp_seq_k fun K13 hK13 => ?_
  refine wp_block ?_
  refine rw_ 3 [(17, 0), (18, 1), (16, 2)] [[], [0], [1]] (rel [iI (wishErr ⟨(l1, h1), (l2, h2), (l3, h3), (l4, h4), (l5, h5), wo⟩), iB ((wishErr ⟨(l1, h1), (l2, h2), (l3, h3), (l4, h4), (l5, h5), wo⟩) != 0), iB ((wishErr ⟨(l1, h1), (l2, h2), (l3, h3), (l4, h4), (l5, h5), wo⟩) != 0)])
   ⟨fun f s W c d hs i j a => opm (a.v 8 k3_8),
  fun f s W c d hs i j a => opv rfl rfl (by simp [go_sem, a.e 17 (d 0 rfl)]) rfl,
  fun f s W c d hs i j a => opm (a.v 18 (d 1 rfl)), trivial⟩ ?_
  intro f9 s9 W9 hB9 g9 hg9 z9
  have b9_2 := hB9.b b3_2
  have k9_6 := kt hg9 6 k3_6
  have k9_8 := kt hg9 8 k3_8
  have k9_16 := kt hg9 16 (hB9.is 2)
  have hc15 : (fr 35 g9).eval (.tmp 16) = .bool true := ((fr_eval rfl).trans k9_16).trans (by rw [hne_])
  refine wp_cond_true (hc15) ?_
  refine rw_ 5 [(19, 0), (20, 1), (7, 3), (8, 4)] [[], [], [0], [], [1]] (rel [is (.agg #[.int .i64 0, .slice none 0 0, .int .i64 0, .slice none 0 0, .slice none 0 0, .int .i64 0, .bool false]), iI (wishErr ⟨(l1, h1), (l2, h2), (l3, h3), (l4, h4), (l5, h5), wo⟩), is (undef), iI 0, iI (wishErr ⟨(l1, h1), (l2, h2), (l3, h3), (l4, h4), (l5, h5), wo⟩)])
   ⟨fun f s W c d hs i j a => opv rfl rfl (by simp [go_sem, a.e 6 k9_6, cb b9_2 c 0, cb b9_2 c 1, cb b9_2 c 2, cb b9_2 c 3, cb b9_2 c 4, cb b9_2 c 5, cb b9_2 c 6]) rfl,
  fun f s W c d hs i j a => opm (a.v 8 ((i 4 8 rfl rfl).trans k9_8)),
  fun f s W c d hs i j a => ops_same rfl ⟨rfl, rfl⟩ (run_seg (setRow_self W _ _ _ _ (bwb b9_2 c)).symm (a.v 6 k9_6) (a.v 19 (d 0 rfl)) (bwb b9_2 c) rfl rfl rfl rfl),
  fun f s W c d hs i j a => opz,
  fun f s W c d hs i j a => opm (a.v 20 (d 1 rfl)), trivial⟩ ?_
  intro f10 s10 W10 hB10 g10 hg10 z10
  have fB10 := hB10.f (hB9.f fB3)
  have b10_2 := hB10.b b9_2
  have k10_6 := kt hg10 6 k9_6
  have k10_7 := kt hg10 7 (hB10.is 3)
  have k10_8 := kt hg10 8 (hB10.is 4)
  refine wp_ret ?_
  refine inBlock_ret (then_ret ?_)
  refine leave_gen (v := .tuple #[.agg #[.int .i64 0, .slice none 0 0, .int .i64 0, .slice none 0 0, .slice none 0 0, .int .i64 0, .bool false], .int .i64 0, .int .i64 (wishErr ⟨(l1, h1), (l2, h2), (l3, h3), (l4, h4), (l5, h5), wo⟩)]) (.inr rfl) (by simp [results, Tryz.results28, go_sem, frv 35 k10_6, cl b10_2 0, cl b10_2 1, cl b10_2 2, cl b10_2 3, cl b10_2 4, cl b10_2 5, cl b10_2 6, frv 35 k10_7, frv 35 k10_8]) ?_
  have hs : blankAll ⟨(l1, h1), (l2, h2), (l3, h3), (l4, h4), (l5, h5), wo⟩ clo chi tab = (⟨0, [], 0, [], [], 0, false⟩, 0, wishErr ⟨(l1, h1), (l2, h2), (l3, h3), (l4, h4), (l5, h5), wo⟩) := by simp only [blankAll, hc5, if_true, if_false, Bool.false_eq_true]
  rw [hs]
  exact BlankP.bad (by have h' := hne_; simpa using h') rfl fB10
theorem blank_err (l1 h1 l2 h2 l3 h3 l4 h4 l5 h5 clo chi : Int) (wo : Bool) (tab : Int) (w : World) (hw1 : (wishErr ⟨(l1, h1), (l2, h2), (l3, h3), (l4, h4), (l5, h5), wo⟩ == 0) = true) (hc1 : (checkedErr [] [(clo, chi)] != 0) = false) (hc2 : (!(within 0 100 [tab])) = false) (he : (blankOf ⟨(l1, h1), (l2, h2), (l3, h3), (l4, h4), (l5, h5), wo⟩ clo chi tab).2.2 ≠ 0) :
  Calls Tryz.prog 28 #[.agg #[.int .i64 l1, .int .i64 h1, .int .i64 l2, .int .i64 h2, .int .i64 l3, .int .i64 h3, .int .i64 l4, .int .i64 h4, .int .i64 l5, .int .i64 h5, .bool wo], .agg #[.int .i64 clo, .int .i64 chi], .int .i64 tab] w (BlankP (blankAll ⟨(l1, h1), (l2, h2), (l3, h3), (l4, h4), (l5, h5), wo⟩ clo chi tab) w) := by
 have hw0 : wishErr ⟨(l1, h1), (l2, h2), (l3, h3), (l4, h4), (l5, h5), wo⟩ = 0 := by simpa using hw1
 have hw2 : (wishErr ⟨(l1, h1), (l2, h2), (l3, h3), (l4, h4), (l5, h5), wo⟩ != 0) = false := by simp [hw0]
 obtain ⟨-, hsp⟩ := checked_split (bs := []) (cs := [(clo, chi)]) (by simpa using hc1)
 have hsb := span_bounds (hsp (clo, chi) (by simp))
 simp only at hsb
 obtain ⟨R_, hR_⟩ : ∃ r, r = blankOf ⟨(l1, h1), (l2, h2), (l3, h3), (l4, h4), (l5, h5), wo⟩ clo chi tab := ⟨_, rfl⟩
 have hs : blankAll ⟨(l1, h1), (l2, h2), (l3, h3), (l4, h4), (l5, h5), wo⟩ clo chi tab = R_ := by simp only [blankAll, hw1, hc1, hc2, if_true, if_false, Bool.false_eq_true]; exact hR_.symm
 rw [hs]
 refine calls_fr Tryz.func28 Tryz.ntmps28 rfl rfl fun g hg => ?_
 have k0 : g 0 = .agg #[.int .i64 l1, .int .i64 h1, .int .i64 l2, .int .i64 h2, .int .i64 l3, .int .i64 h3, .int .i64 l4, .int .i64 h4, .int .i64 l5, .int .i64 h5, .bool wo] := hg 0
 have k1 : g 1 = .agg #[.int .i64 clo, .int .i64 chi] := hg 1
 have k2 : g 2 = .int .i64 tab := hg 2
 clear hg
 have fB0 : Below w.heap.size w w := Below.refl _ _
 refine rw_ 5 [(3, 0), (4, 1), (6, 2), (7, 3), (8, 4)] [[], [], [], [], []] (rel [bx 0 #[.int .i64 l1, .int .i64 h1, .int .i64 l2, .int .i64 h2, .int .i64 l3, .int .i64 h3, .int .i64 l4, .int .i64 h4, .int .i64 l5, .int .i64 h5, .bool wo] 43, bx 1 #[.int .i64 clo, .int .i64 chi] 26, bx 2 #[.int .i64 0, .slice none 0 0, .int .i64 0, .slice none 0 0, .slice none 0 0, .int .i64 0, .bool false] 24, iI 0, iI 0])
  ⟨fun f s W c d hs i j a => opb rfl rfl (by simp [go_sem, a.e 0 k0]),
  fun f s W c d hs i j a => opb rfl rfl (by simp [go_sem, a.e 1 k1]),
  fun f s W c d hs i j a => opb rfl rfl (by simp [go_sem]),
  fun f s W c d hs i j a => opz,
  fun f s W c d hs i j a => opz, trivial⟩ ?_
 intro f1 s1 W1 hB1 g1 hg1 z1
 obtain ⟨r1_0, br1_0⟩ := hB1.is 0
 have lr1_0 := hB1.lr 0 br1_0
 obtain ⟨r1_1, br1_1⟩ := hB1.is 1
 have lr1_1 := hB1.lr 1 br1_1
 obtain ⟨r1_2, br1_2⟩ := hB1.is 2
 have lr1_2 := hB1.lr 2 br1_2
 have ne1_0_1 : s1 0 ≠ s1 1 := hB1.ne 0 1 (by decide) (by decide) (by decide) (fun _ _ _ h => ltb h.2) (fun _ _ _ h => ltb h.2)
 have ne1_0_2 : s1 0 ≠ s1 2 := hB1.ne 0 2 (by decide) (by decide) (by decide) (fun _ _ _ h => ltb h.2) (fun _ _ _ h => ltb h.2)
 have ne1_1_2 : s1 1 ≠ s1 2 := hB1.ne 1 2 (by decide) (by decide) (by decide) (fun _ _ _ h => ltb h.2) (fun _ _ _ h => ltb h.2)
 have k1_3 := kt hg1 3 r1_0
 refine rw_ 3 [(9, 0), (10, 1), (8, 2)] [[], [0], [1]] (rel [is (.agg #[.int .i64 l1, .int .i64 h1, .int .i64 l2, .int .i64 h2, .int .i64 l3, .int .i64 h3, .int .i64 l4, .int .i64 h4, .int .i64 l5, .int .i64 h5, .bool wo]), iI (wishErr ⟨(l1, h1), (l2, h2), (l3, h3), (l4, h4), (l5, h5), wo⟩), iI (wishErr ⟨(l1, h1), (l2, h2), (l3, h3), (l4, h4), (l5, h5), wo⟩)])
  ⟨fun f s W c d hs i j a => opv rfl rfl (by simp [go_sem, a.e 3 k1_3, cb br1_0 c 0, cb br1_0 c 1, cb br1_0 c 2, cb br1_0 c 3, cb br1_0 c 4, cb br1_0 c 5, cb br1_0 c 6, cb br1_0 c 7, cb br1_0 c 8, cb br1_0 c 9, cb br1_0 c 10]) rfl,
  fun f s W c d hs i j a => opc rfl rfl (by simp [go_sem, a.e 9 (d 0 rfl)]) (wish_any l1 h1 l2 h2 l3 h3 l4 h4 l5 h5 wo W),
  fun f s W c d hs i j a => opm (a.v 10 (d 1 rfl)), trivial⟩ ?_
 intro f2 s2 W2 hB2 g2 hg2 z2
 have k2_8 := kt hg2 8 (hB2.is 2)
 refine wp_seq_k fun K3 hK3 => ?_
 refine rw_ 2 [(11, 0), (12, 1)] [[], [0]] (rel [iI (wishErr ⟨(l1, h1), (l2, h2), (l3, h3), (l4, h4), (l5, h5), wo⟩), iB ((wishErr ⟨(l1, h1), (l2, h2), (l3, h3), (l4, h4), (l5, h5), wo⟩) == 0)])
  ⟨fun f s W c d hs i j a => opm (a.v 8 k2_8),
  fun f s W c d hs i j a => opv rfl rfl (by simp [go_sem, a.e 11 (d 0 rfl)]) rfl, trivial⟩ ?_
 intro f3 s3 W3 hB3 g3 hg3 z3
 have b3_1 := hB3.b (hB2.b br1_1)
 have k3_4 := kt hg3 4 (kt hg2 4 (kt hg1 4 r1_1))
 have k3_12 := kt hg3 12 (hB3.is 1)
 have hc5 : (fr 35 g3).eval (.tmp 12) = .bool true := ((fr_eval rfl).trans k3_12).trans (by rw [hw1])
 refine wp_cond_true (hc5) ?_
 refine ry 4 [(13, 0), (14, 1), (15, 2), (8, 3)] [[], [0], [1], [2]] (rel [is (.agg #[.int .i64 clo, .int .i64 chi]), row 1 1 #[.int .i64 clo, .int .i64 chi] 26, iI (checkedErr [] [(clo, chi)]), iI (checkedErr [] [(clo, chi)])])
  ⟨fun f s W c d hs i j a => opv rfl rfl (by simp [go_sem, a.e 4 k3_4, cb b3_1 c 0, cb b3_1 c 1]) rfl,
  fun f s W c d hs i j a => opr rfl rfl (by simp [go_sem, a.e 13 (d 0 rfl)]),
  fun f s W c d hs i j a => opc (args := #[.slice none 0 0, .slice (some ⟨(s 1), 0, none⟩) (1) (1)]) rfl rfl (by simp [go_sem, a.e 14 (d 1 rfl).1]) (checked_none _ _ _ [(clo, chi)] W (pp_block (xs := [(clo, chi)]) (d 1 rfl).2 rfl rfl)),
  fun f s W c d hs i j a => opm (a.v 15 (d 2 rfl)), trivial⟩ ?_
 intro f4 s4 W4 hB4 g4 hg4 z4
 obtain ⟨r4_1, br4_1⟩ := hB4.is 1
 have lr4_1 := hB4.lr 1 br4_1
 refine hK3 _ _ ?_
 have k4_8 := kt hg4 8 (hB4.is 3)
 refine wp_seq_k fun K6 hK6 => ?_
 refine wp_block ?_
 refine rw_ 3 [(17, 0), (18, 1), (16, 2)] [[], [0], [1]] (rel [iI (checkedErr [] [(clo, chi)]), iB ((checkedErr [] [(clo, chi)]) != 0), iB ((checkedErr [] [(clo, chi)]) != 0)])
  ⟨fun f s W c d hs i j a => opm (a.v 8 k4_8),
  fun f s W c d hs i j a => opv rfl rfl (by simp [go_sem, a.e 17 (d 0 rfl)]) rfl,
  fun f s W c d hs i j a => opm (a.v 18 (d 1 rfl)), trivial⟩ ?_
 intro f5 s5 W5 hB5 g5 hg5 z5
 have k5_2 := kt hg5 2 (kt hg4 2 (kt hg3 2 (kt hg2 2 (kt hg1 2 k2))))
 have k5_16 := kt hg5 16 (hB5.is 2)
 have hc8 : (fr 35 g5).eval (.tmp 16) = .bool false := ((fr_eval rfl).trans k5_16).trans (by rw [hc1])
 refine wp_cond_false (hc8) ?_
 refine rw_ 5 [(22, 0), (23, 1), (24, 2), (25, 3), (21, 4)] [[], [0], [1], [2], [3]] (rel [iI tab, row 1 1 #[.int .i64 tab] 3, iB (within 0 100 [tab]), iB (!(within 0 100 [tab])), iB (!(within 0 100 [tab]))])
  ⟨fun f s W c d hs i j a => opm (a.v 2 k5_2),
  fun f s W c d hs i j a => opr rfl rfl (by simp [go_sem, a.e 22 (d 0 rfl)]),
  fun f s W c d hs i j a => opc (args := #[.int .i64 0, .int .i64 100, .slice (some ⟨(s 1), 0, none⟩) (1) (1)]) rfl rfl (by simp [go_sem, a.e 23 (d 1 rfl).1]) (within_any 0 100 _ _ _ [tab] W (ii_block (xs := [tab]) (d 1 rfl).2 rfl rfl)),
  fun f s W c d hs i j a => opv rfl rfl (by simp [go_sem, a.e 24 (d 2 rfl)]) rfl,
  fun f s W c d hs i j a => opm (a.v 25 (d 3 rfl)), trivial⟩ ?_
 intro f6 s6 W6 hB6 g6 hg6 z6
 have b6_0 := hB6.b (hB5.b (hB4.b (hB3.b (hB2.b br1_0))))
 have b6_1 := hB6.b (hB5.b (hB4.b b3_1))
 obtain ⟨r6_1, br6_1⟩ := hB6.is 1
 have lr6_1 := hB6.lr 1 br6_1
 have k6_2 := kt hg6 2 k5_2
 have k6_3 := kt hg6 3 (kt hg5 3 (kt hg4 3 (kt hg3 3 (kt hg2 3 k1_3))))
 have k6_4 := kt hg6 4 (kt hg5 4 (kt hg4 4 k3_4))
 have k6_21 := kt hg6 21 (hB6.is 4)
 have hc10 : (fr 35 g6).eval (.tmp 21) = .bool false := ((fr_eval rfl).trans k6_21).trans (by rw [hc2])
 refine wp_cond_false (hc10) ?_
 refine wp_skip ?_
 refine ibn ?_
 refine hK6 _ _ ?_
 refine wp_seq_k fun K11 hK11 => ?_
 refine ry 8 [(27, 0), (28, 1), (29, 2), (30, 3), (31, 4), (32, 5), (33, 6), (34, 7), (7, 9), (8, 10)] [[], [], [0, 1], [], [2, 3], [4], [4], [4], [0, 1, 2, 3, 4, 5, 6, 7], [0, 1, 2, 3, 4, 5, 6, 7, 8], [0, 1, 2, 3, 4, 5, 6, 7, 8, 9]] (rel [is (.agg #[.int .i64 l1, .int .i64 h1, .int .i64 l2, .int .i64 h2, .int .i64 l3, .int .i64 h3, .int .i64 l4, .int .i64 h4, .int .i64 l5, .int .i64 h5, .bool wo]), is (.agg #[.int .i64 clo, .int .i64 chi]), is (.agg #[.int .i64 l1, .int .i64 h1, .int .i64 l2, .int .i64 h2, .int .i64 l3, .int .i64 h3, .int .i64 l4, .int .i64 h4, .int .i64 l5, .int .i64 h5, .bool wo, .int .i64 clo, .int .i64 chi]), iI tab, is (.tuple #[.agg #[.int .i64 0, .slice none 0 0, .int .i64 0, .slice none 0 0, .slice none 0 0, .int .i64 0, .bool false], .int .i64 R_.2.1, .int .i64 R_.2.2]), is (.agg #[.int .i64 0, .slice none 0 0, .int .i64 0, .slice none 0 0, .slice none 0 0, .int .i64 0, .bool false]), iI R_.2.1, iI R_.2.2])
  ⟨fun f s W c d hs i j a => opv rfl rfl (by simp [go_sem, a.e 3 k6_3, cb b6_0 c 0, cb b6_0 c 1, cb b6_0 c 2, cb b6_0 c 3, cb b6_0 c 4, cb b6_0 c 5, cb b6_0 c 6, cb b6_0 c 7, cb b6_0 c 8, cb b6_0 c 9, cb b6_0 c 10]) rfl,
  fun f s W c d hs i j a => opv rfl rfl (by simp [go_sem, a.e 4 k6_4, cb b6_1 c 0, cb b6_1 c 1]) rfl,
  fun f s W c d hs i j a => opv rfl rfl (by simp [go_sem, a.e 27 (d 0 rfl), a.e 28 (d 1 rfl)]) rfl,
  fun f s W c d hs i j a => opm (a.v 2 k6_2),
  fun f s W c d hs i j a => opd (args := #[.agg #[.int .i64 l1, .int .i64 h1, .int .i64 l2, .int .i64 h2, .int .i64 l3, .int .i64 h3, .int .i64 l4, .int .i64 h4, .int .i64 l5, .int .i64 h5, .bool wo, .int .i64 clo, .int .i64 chi], .int .i64 tab]) rfl rfl (by simp [go_sem, a.e 29 (d 2 rfl), a.e 30 (d 3 rfl)]) (hR_ ▸ make_any l1 h1 l2 h2 l3 h3 l4 h4 l5 h5 clo chi wo tab W (wish_in hw0) (by omega) (by omega) (by omega) (by omega)) (fun e W' h => ⟨_, (h.2 (hR_ ▸ he)).1, (h.2 (hR_ ▸ he)).2, rfl⟩),
  fun f s W c d hs i j a => opv rfl rfl (by simp [go_sem, a.e 31 (d 4 rfl)]) rfl,
  fun f s W c d hs i j a => opv rfl rfl (by simp [go_sem, a.e 31 (d 4 rfl)]) rfl,
  fun f s W c d hs i j a => opv rfl rfl (by simp [go_sem, a.e 31 (d 4 rfl)]) rfl, trivial⟩ ?_
 intro f7 s7 W7 hB7 g7 hg7 z7
 have fB7 := hB7.f (hB6.f (hB5.f (hB4.f (hB3.f (hB2.f (hB1.f fB0))))))
 have b7_2 := hB7.b (hB6.b (hB5.b (hB4.b (hB3.b (hB2.b br1_2)))))
 have k7_6 := kt hg7 6 (kt hg6 6 (kt hg5 6 (kt hg4 6 (kt hg3 6 (kt hg2 6 (kt hg1 6 r1_2))))))
 have k7_32 := kt hg7 32 (hB7.is 5)
 have k7_33 := kt hg7 33 (hB7.is 6)
 obtain ⟨W8, hW8⟩ : ∃ W', W' = W7.setRow (s1 2) #[.int .i64 0, .slice none 0 0, .int .i64 0, .slice none 0 0, .slice none 0 0, .int .i64 0, .bool false] := ⟨_, rfl⟩
 refine tsk (o := _) rfl ⟨rfl, rfl⟩ (run_seg hW8 (fr_ev k7_6) (fr_ev k7_32) b7_2 rfl rfl rfl rfl) ?_
 obtain ⟨fB8, nb8, ot8, z8⟩ := sgf hW8 fB7 b7_2 (by omega)
 clear hW8
 refine tail_value (o := _) rfl rfl rfl (v := .int .i64 R_.2.1) (by simp [go_sem, frv 35 k7_33]) ?_
 generalize hg9 : upd g7 7 (.int .i64 R_.2.1) = g9
 have k9_34 := ku hg9 34 (kt hg7 34 (hB7.is 7))
 refine tail_value (o := _) rfl rfl rfl (v := .int .i64 R_.2.2) (by simp [go_sem, frv 35 k9_34]) ?_
 generalize hg10 : upd g9 8 (.int .i64 R_.2.2) = g10
 have k10_6 := ku hg10 6 (ku hg9 6 k7_6)
 have k10_7 := ku hg10 7 (kt hg9 7 (upd_same _ _ _))
 have k10_8 := kt hg10 8 (upd_same _ _ _)
 refine wpe ?_
 refine hK11 _ _ ?_
 refine wp_ret ?_
 refine leave_gen (v := .tuple #[.agg #[.int .i64 0, .slice none 0 0, .int .i64 0, .slice none 0 0, .slice none 0 0, .int .i64 0, .bool false], .int .i64 R_.2.1, .int .i64 R_.2.2]) (.inr rfl) (by simp [results, Tryz.results28, go_sem, frv 35 k10_6, cl nb8 0, cl nb8 1, cl nb8 2, cl nb8 3, cl nb8 4, cl nb8 5, cl nb8 6, frv 35 k10_7, frv 35 k10_8]) ?_
 exact ⟨fun h => absurd h (hR_ ▸ he), fun _ => ⟨rfl, fB8⟩⟩
end Go.Proofs.YthnediamopehfaaGreat
