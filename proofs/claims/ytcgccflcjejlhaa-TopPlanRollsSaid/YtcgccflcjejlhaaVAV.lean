/- Part of the proof: what the claim leans on. -/
import Derived.Test.YtcgccflcjejlhaaVAU
set_option maxHeartbeats 8000000
set_option maxRecDepth 100000
set_option linter.unusedSimpArgs false
set_option linter.unusedVariables false
namespace Go.Proofs.Ytcgccflcjejlhaa
open Go.RowKit
def badB (nu de tl : Int) (ss : Nat → Int × Int) (n : Nat) (lg : Nat → Int) (j : Nat) : Bool := decide (0 < ((lieL (lieB nu de tl ss n (bgF lg j) (bgF lg (j + 1))) n).length : Int)) || decide ((usplF tl ss n).1 * de < bgF lg (j + 1) * nu)
def fltB (bad : Nat → Bool) : Nat → Bool
  | 0 => false
  | i + 1 => fltB bad i || bad i
theorem fltB_true {bad : Nat → Bool} {j : Nat} (h : bad j = true) : ∀ i, j < i → fltB bad i = true
  | 0, hj => absurd hj (Nat.not_lt_zero _)
  | i + 1, hj => by
    rw [fltB]
    rcases Nat.lt_or_ge j i with h1 | h1
    · rw [fltB_true h i h1, Bool.true_or]
    · obtain rfl : j = i := by omega
      rw [h, Bool.or_true]
theorem fltB_none {bad : Nat → Bool} {i : Nat} (h : fltB bad i = false) {j : Nat} (hj : j < i) : bad j = false := by
  cases hb : bad j
  · rfl
  · rw [fltB_true hb i hj] at h; cases h
theorem iis_head {L : List Int} (h : 0 < L.length) : ∃ x, (iis L)[0]? = some (.int .i64 x) := by
  cases L with
  | nil => exact absurd h (Nat.lt_irrefl _)
  | cons x r => exact ⟨x, rfl⟩
def IsPc (B : Nat) (qa : Option Addr) (m cq : Nat) (v : Value) (W : World) : Prop := ∃ b, v = .func (.func 127) #[] #[.pointer (some ⟨b, 0, none⟩)] ∧ W.heap[b]? = some (.cells #[.slice qa m cq] 71 (0, 0)) ∧ B ≤ b
theorem IsPc.below {B : Nat} {qa : Option Addr} {m cq : Nat} {v : Value} {W W' : World} (h : IsPc B qa m cq v W) (hb : Below W.heap.size W W') : IsPc B qa m cq v W' := by
  obtain ⟨b, e, h1, h2⟩ := h; exact ⟨b, e, bwb h1 hb, h2⟩
theorem ro_pieces (qa : Option Addr) (m cq : Nat) (w : World) :
  Calls Try.prog 85 #[.slice qa m cq] w (fun e w' => ∃ v, e = .returned v ∧ IsPc w.heap.size qa m cq v w' ∧ Below w.heap.size w w') := by
 refine calls_fr Try.func85 Try.ntmps85 rfl rfl fun g hg => ?_
 have k0 : g 0 = .slice qa m cq := hg 0
 clear hg
 have fB0 : Below w.heap.size w w := Below.refl _ _
 refine rw_ 2 [(1, 0), (2, 1)] [[], []] (rel [bx 0 #[.slice qa m cq] 71, is (.nilFunc)])
  ⟨fun f s W c d h i j a => opb rfl rfl (by simp [go_sem, a.e 0 k0]),
  fun f s W c d h i j a => opv rfl rfl (by simp [go_sem]) rfl, trivial⟩ ?_
 intro f1 s1 W1 hB1 g1 hg1 z1
 obtain ⟨r1_0, br1_0⟩ := hB1.is 0
 have lr1_0 := hB1.lr 0 br1_0
 have k1_1 := kt hg1 1 r1_0
 refine rw_ 2 [(3, 0), (2, 1)] [[], [0]] (rel [is (.func (.func 127) #[] #[.pointer (some ⟨(s1 0), 0, none⟩)]), is (.func (.func 127) #[] #[.pointer (some ⟨(s1 0), 0, none⟩)])])
  ⟨fun f s W c d h i j a => opv rfl rfl (by simp [go_sem, a.e 1 k1_1]) rfl,
  fun f s W c d h i j a => opm (a.v 3 (d 0 rfl)), trivial⟩ ?_
 intro f2 s2 W2 hB2 g2 hg2 z2
 have fB2 := hB2.f (hB1.f fB0)
 have b2_0 := hB2.b br1_0
 have k2_2 := kt hg2 2 (hB2.is 1)
 refine wp_ret ?_
 refine leave_one (N := 4) (.inr rfl) Try.results85 rfl k2_2 ?_
 exact ⟨_, rfl, ⟨_, rfl, b2_0, by omega⟩, fB2⟩
theorem ro_fault (nu de tl : Int) (ss : Nat → Int × Int) (ra : Option Addr) (n c : Nat) (lg : Nat → Int) (qa : Option Addr) (m cq : Nat) (w : World) (hU : RoUp nu de tl) (hQ : RdL w qa m lg) (hq : ∀ i, i < m → RdIn (lg i)) (gm : m ≤ 10) (hO : SpL w ra n ss) (ho : ∀ i, i < n → RoIn tl (ss i)) (gn : n ≤ 6) (ht : 0 ≤ tl ∧ tl ≤ 10000) :
  Calls Try.prog 41 #[.agg #[.int .i64 nu, .int .i64 de, .int .i64 tl, .slice ra n c], .slice qa m cq] w (fun e w' => ∃ o_ s_, e = .returned (.tuple #[.int .i64 o_, .int .i64 s_, .bool (fltB (badB nu de tl ss n lg) m)]) ∧ Below w.heap.size w w') := by
 refine calls_frM (n := 10) Try.func41 Try.ntmps41 rfl rfl fun g hg => ?_
 have k0 : g 0 = .agg #[.int .i64 nu, .int .i64 de, .int .i64 tl, .slice ra n c] := hg 0
 have k1 : g 1 = .slice qa m cq := hg 1
 clear hg
 have fB0 : Below w.heap.size w w := Below.refl _ _
 refine wp_seq_k fun K1 hK1 => ?_
 refine ry 4 [(2, 0), (4, 1), (5, 2), (6, 3)] [[], [], [], []] (rel [bx 0 #[.int .i64 nu, .int .i64 de, .int .i64 tl, .slice ra n c] 128, bx 1 #[.int .i64 0] 3, bx 2 #[.int .i64 0] 3, bx 3 #[.bool false] 4])
  ⟨fun f s W x y z B C q => opb rfl rfl (by simp [go_sem, q.e 0 k0]),
  fun f s W x y z B C q => opb rfl rfl (by simp [go_sem]),
  fun f s W x y z B C q => opb rfl rfl (by simp [go_sem]),
  fun f s W x y z B C q => opb rfl rfl (by simp [go_sem]), trivial⟩ ?_
 intro f1 s1 W1 hB1 g1 hg1 z1
 have fB1 := hB1.f fB0
 obtain ⟨r1_0, br1_0⟩ := hB1.is 0
 have lr1_0 := hB1.lr 0 br1_0
 obtain ⟨r1_1, br1_1⟩ := hB1.is 1
 have lr1_1 := hB1.lr 1 br1_1
 obtain ⟨r1_2, br1_2⟩ := hB1.is 2
 have lr1_2 := hB1.lr 2 br1_2
 obtain ⟨r1_3, br1_3⟩ := hB1.is 3
 have lr1_3 := hB1.lr 3 br1_3
 have ne1_0_1 := hB1.nb 0 1
 have ne1_0_2 := hB1.nb 0 2
 have ne1_1_2 := hB1.nb 1 2
 have ne1_0_3 := hB1.nb 0 3
 have ne1_1_3 := hB1.nb 1 3
 have ne1_2_3 := hB1.nb 2 3
 refine hK1 _ _ ?_
 have k1_2 := kt hg1 2 r1_0
 refine wp_seq_k fun K2 hK2 => ?_
 refine ry 4 [(10, 0), (11, 1), (12, 2), (7, 3)] [[], [0], [0, 1], [], [0, 1, 2, 3]] (rel [is (.agg #[.int .i64 nu, .int .i64 de, .int .i64 tl, .slice ra n c]), is (.agg #[.int .i64 ((usplF tl ss n).1), .int .i64 ((usplF tl ss n).2)]), iI ((usplF tl ss n).1), bx 3 #[.int .i64 0] 3])
  ⟨fun f s W x y z B C q => opl rfl rfl rfl (q.v 2 k1_2) (bwb br1_0 x) Try.underlying128 rfl (by kernel_rfl) rfl,
  fun f s W x y z B C q => by have E := bwt fB1 x; exact opc rfl rfl (by simp [go_sem, q.e 10 (y 0 rfl)]) (ro_end nu de tl ss ra n c W (hO.below E) ho gn ht),
  fun f s W x y z B C q => by have fx_ : ∀ W : World, (Instr.field 43 (.agg #[.int .i64 ((usplF tl ss n).1), .int .i64 ((usplF tl ss n).2)]) 0).run Try.prog W = .ok (.int .i64 ((usplF tl ss n).1)) W := fun W => (by kernel_rfl); exact opv rfl rfl (by simp [go_sem, q.e 11 (y 1 rfl), fx_]) rfl,
  fun f s W x y z B C q => opb rfl rfl (by simp [go_sem]), trivial⟩ ?_
 intro f2 s2 W2 hB2 g2 hg2 z2
 have fB2 := hB2.f fB1
 have b2_0 := hB2.b br1_0
 have b2_1 := hB2.b br1_1
 have b2_2 := hB2.b br1_2
 have b2_3 := hB2.b br1_3
 obtain ⟨r2_3, br2_3⟩ := hB2.is 3
 have lr2_3 := hB2.lr 3 br2_3
 have k2_1 := kt hg2 1 (kt hg1 1 k1)
 have k2_12 := kt hg2 12 (hB2.is 2)
 have k2_7 := kt hg2 7 r2_3
 obtain ⟨W3, hW3⟩ : ∃ W', W' = W2.setRow (s2 3) #[.int .i64 ((usplF tl ss n).1)] := ⟨_, rfl⟩
 refine tsk (o := _) rfl ⟨rfl, rfl⟩ (run_seg hW3 (fr_ev k2_7) (fr_ev k2_12) br2_3 rfl rfl rfl rfl) ?_
 obtain ⟨fB3, nb3, ot3, z3⟩ := sgf hW3 fB2 br2_3 (by omega)
 clear hW3
 have b3_0 := ot3 _ _ (by omega) b2_0
 have b3_1 := ot3 _ _ (by omega) b2_1
 have b3_2 := ot3 _ _ (by omega) b2_2
 have b3_3 := ot3 _ _ (by omega) b2_3
 refine wpe ?_
 refine hK2 _ _ ?_
 refine wp_seq_k fun K3 hK3 => ?_
 refine rx 2 [(13, 0), (14, 1)] [[], [0]] (rel [is (.slice qa m cq), ab fun v W => IsPc w.heap.size qa m cq v W])
  ⟨is_k, ab_k fun v W W' hb h => (IsPc.below h hb), trivial⟩
  ⟨fun f s W x y z B C q => opv rfl rfl (by simp [go_sem, q.e 1 k2_1]) rfl,
  fun f s W x y z B C q => by have E := bwt fB3 x; exact opd rfl rfl (by simp [go_sem, q.e 13 (y 0 rfl)]) (ro_pieces qa m cq W) ((fun e W' h => by obtain ⟨v, e1, ⟨b_, e2, h1, h2⟩, h3⟩ := h; have := x.size; exact ⟨_, e1, h3, ⟨b_, e2, h1, Nat.le_trans E.size h2⟩⟩)), trivial⟩ ?_
 intro f4 s4 W4 hB4 g4 hg4 z4
 have fB4 := hB4.f fB3
 have b4_0 := hB4.b b3_0
 have b4_1 := hB4.b b3_1
 have b4_2 := hB4.b b3_2
 have b4_3 := hB4.b b3_3
 have b4_4 := hB4.b nb3
 obtain ⟨b1', r4_1, q2', hpl_⟩ := hB4.is 1
 have k4_2 := kt hg4 2 (kt hg2 2 k1_2)
 have k4_4 := kt hg4 4 (kt hg2 4 (kt hg1 4 r1_1))
 have k4_5 := kt hg4 5 (kt hg2 5 (kt hg1 5 r1_2))
 have k4_6 := kt hg4 6 (kt hg2 6 (kt hg1 6 r1_3))
 have k4_7 := kt hg4 7 k2_7
 have k4_14 := kt hg4 14 r4_1
 refine wp_block ?_
 obtain ⟨V, hV⟩ : ∃ V, W4.heap.size = V := ⟨_, rfl⟩
 have hVw_ : w.heap.size ≤ W4.heap.size := Below.size fB4
 obtain ⟨G0, hG0⟩ : ∃ G : Nat → Prop, G = fun b => b = (s1 1) ∨ b = (s1 2) ∨ b = (s1 3) := ⟨_, rfl⟩
 obtain ⟨PP, hP⟩ : ∃ P : Nat → (Nat → Prop) → World → Prop, P = fun (i : Nat) (G_ : Nat → Prop) (W_ : World) => W_.heap[(s1 1)]? = some (.cells #[.int .i64 0] 3 (0, 0)) ∧ W_.heap[(s1 2)]? = some (.cells #[.int .i64 0] 3 (0, 0)) ∧ W_.heap[(s1 3)]? = some (.cells #[.bool false] 4 (0, 0)) ∧ fltB (badB nu de tl ss n lg) i = false ∧ ∀ b, G_ b ↔ b = (s1 1) ∨ b = (s1 2) ∨ b = (s1 3) := ⟨_, rfl⟩
 obtain ⟨PS, hPS⟩ : ∃ P : (Nat → Prop) → World → Prop, P = fun (G_ : Nat → Prop) (W_ : World) => ∃ o_ s_, W_.heap[(s1 1)]? = some (.cells #[.int .i64 o_] 3 (0, 0)) ∧ W_.heap[(s1 2)]? = some (.cells #[.int .i64 s_] 3 (0, 0)) ∧ W_.heap[(s1 3)]? = some (.cells #[.bool true] 4 (0, 0)) ∧ fltB (badB nu de tl ss n lg) m = true ∧ ∀ b, G_ b ↔ b = (s1 1) ∨ b = (s1 2) ∨ b = (s1 3) := ⟨_, rfl⟩
 obtain ⟨AA, hA⟩ : ∃ A : Nat → (Nat → Prop) → Act → World → Prop, A = fun (j : Nat) (G_ : Nat → Prop) (a' : Act) (W_ : World) => ∃ g' : Nat → Value, a' = fr 48 g' ∧ g' 2 = .pointer (some ⟨(s1 0), 0, none⟩) ∧ g' 4 = .pointer (some ⟨(s1 1), 0, none⟩) ∧ g' 5 = .pointer (some ⟨(s1 2), 0, none⟩) ∧ g' 6 = .pointer (some ⟨(s1 3), 0, none⟩) ∧ g' 7 = .pointer (some ⟨(s2 3), 0, none⟩) ∧ ∃ b10, g' 8 = .pointer (some ⟨b10, 0, none⟩) ∧ W_.heap[b10]? = some (.cells #[.int .i64 ((lg j)), .bool true, .int .i64 ((j : Int)), .int .i64 ((bgF lg j)), .int .i64 ((bgF lg (j + 1)))] 188 (0, 0)) ∧ V ≤ b10 := ⟨_, rfl⟩
 refine (wpIn_wide (n := 10)).1 (range_ge (n := 10) (gf := 127) (rcv := #[]) (lb := #[.pointer (some ⟨b1', 0, none⟩)]) ((fr_eval rfl).trans k4_14) (enters_of Try.func127 (by kernel_rfl) rfl) (fun i => i < m) (fun i => i = m) (fun i _ v _ => v = #[.agg #[.int .i64 (lg i), .bool true, .int .i64 (i : Int), .int .i64 (bgF lg i), .int .i64 (bgF lg (i + 1))]]) (fun i G v W h => by rw [h]; rfl) (RgI w W4 G0 PP) (fun _ => False) (fun _ h => h.elim) ?hIst (RgS w W4 G0 PS) ?hSst G0 ?hG0b ?hit ?h0 AA ?hAp ?hassign ?hbody ?hdone ?hstop)
 case hIst =>
  refine rgI_stab hVw_ ?_
  subst hP hG0
  rintro i G W_ W' ⟨h1, h2, h3, h5, h6⟩ hk
  exact ⟨hk.block _ _ (fun e => e.2 ((h6 _).2 (.inl rfl))) h1, hk.block _ _ (fun e => e.2 ((h6 _).2 (.inr (.inl rfl)))) h2, hk.block _ _ (fun e => e.2 ((h6 _).2 (.inr (.inr rfl)))) h3, h5, h6⟩
 case hSst =>
  refine rgS_stab hVw_ ?_
  subst hPS hG0
  rintro G W_ W' ⟨o_, s_, h1, h2, h3, h5, h6⟩ hk
  exact ⟨o_, s_, hk.block _ _ (fun e => e.2.1 ((h6 _).2 (.inl rfl))) h1, hk.block _ _ (fun e => e.2.1 ((h6 _).2 (.inr (.inl rfl)))) h2, hk.block _ _ (fun e => e.2.1 ((h6 _).2 (.inr (.inr rfl)))) h3, h5, h6⟩
 case hG0b => subst hG0; intro b hb; rcases hb with hb | hb | hb <;> rw [hb]; exact ltb b4_1; exact ltb b4_2; exact ltb b4_3
 case hit =>
  intro l' W1 J' S' hl hl1 hb1 hJ's hS's hJ'I hS'I hY' hJ0'
  have hz1 := hb1.size
  have hJG' : ∀ i G W_, J' i G W_ → ∀ b, G b → w.heap.size ≤ b ∧ b < V ∧ V ≤ W_.heap.size := fun i G W_ h => by
   have h_ := hJ'I i G W_ h
   subst hP hG0
   obtain ⟨-, hk_, h1, h2, h3, -, h6⟩ := h_
   have hz_ := hk_.size
   intro b hb
   rcases (h6 b).1 hb with hb | hb | hb <;> exact ⟨by omega, by omega, by omega⟩
  have fB1' := fB4.trans (hb1.mono (Below.size fB4))
  refine pieces_it lg qa m cq hQ hq gm b1' l' G0 J' S' W1 fB1' (bwb q2' hb1) hJ's hS's (fun i G W_ h b hb => by have := hJG' i G W_ h b hb; omega) (fun i G W_ h b hb => by have := hJG' i G W_ h b hb; omega) (fun i G W_ hi hj z => hY' i G W_ _ hi hj z rfl) hJ0'
 case h0 =>
  subst hP hG0
  exact ⟨fB4, KeepP.refl _ _, b4_1, b4_2, b4_3, rfl, fun b => Iff.rfl⟩
 case hAp =>
  subst hA
  rintro j G_ a' X r o hl ⟨g', h1, u2, u4, u5, u6, u7, b10, h3, h4, h5⟩
  exact ⟨g', h1, u2, u4, u5, u6, u7, b10, h3, (World.putObj_heap_other (fun e => by rw [e, hl] at h4; cases h4)).trans h4, h5⟩
 case hassign =>
  intro l' j G_ X v K hj hIX hsz hE hK
  subst hE
  have e : ({ tmps := ((#[15] : Array Tmp).zip #[.agg #[.int .i64 ((lg j)), .bool true, .int .i64 ((j : Int)), .int .i64 ((bgF lg j)), .int .i64 ((bgF lg (j + 1)))]]).foldl (fun t (p, v) => t.setIfInBounds p v) (fr 48 g4).tmps, defers := [] } : Act) = fr 48 (upd g4 15 (.agg #[.int .i64 ((lg j)), .bool true, .int .i64 ((j : Int)), .int .i64 ((bgF lg j)), .int .i64 ((bgF lg (j + 1)))])) := by
   rw [foldl_1r, ← fr_set]
  rw [show (fr 48 g4 : Act).tmps = (fr 48 g4).tmps from rfl, e]
  obtain ⟨g7, hg7⟩ : ∃ g7, (upd g4 15 (.agg #[.int .i64 ((lg j)), .bool true, .int .i64 ((j : Int)), .int .i64 ((bgF lg j)), .int .i64 ((bgF lg (j + 1)))])) = g7 := ⟨_, rfl⟩
  rw [hg7]
  have k7_2 : g7 2 = .pointer (some ⟨(s1 0), 0, none⟩) := ku hg7 2 k4_2
  have k7_4 : g7 4 = .pointer (some ⟨(s1 1), 0, none⟩) := ku hg7 4 k4_4
  have k7_5 : g7 5 = .pointer (some ⟨(s1 2), 0, none⟩) := ku hg7 5 k4_5
  have k7_6 : g7 6 = .pointer (some ⟨(s1 3), 0, none⟩) := ku hg7 6 k4_6
  have k7_7 : g7 7 = .pointer (some ⟨(s2 3), 0, none⟩) := ku hg7 7 k4_7
  have k7_15 : g7 15 = .agg #[.int .i64 ((lg j)), .bool true, .int .i64 ((j : Int)), .int .i64 ((bgF lg j)), .int .i64 ((bgF lg (j + 1)))] := kt hg7 15 (upd_same _ _ _)
  have hbX : Below w.heap.size w X := hIX.1
  have hzX : W4.heap.size ≤ X.heap.size := hIX.2.1.size
  refine region_doI (by repeat (first | exact noOut_false | refine noOut_then ?_ | refine noOut_block ?_)) (by kernel_rfl) 1 [(8, 0)] [[], [0]] (rel [bx 0 #[.int .i64 0, .bool false, .int .i64 0, .int .i64 0, .int .i64 0] 188]) (by kernel_rfl) (by kernel_rfl) (by kernel_rfl) (by kernel_rfl)
   ⟨bx_k, trivial⟩
   ⟨fun f s W x y z B C q => opb rfl rfl (by simp [go_sem]), trivial⟩ ?_
  intro f21 s21 W21 hB21
  have fB21 := hB21.f hbX
  have z21 := hB21.below.size
  have q3' := (bwt (Below.refl X.heap.size X) hB21.below)
  obtain ⟨r21_0, br21_0⟩ := hB21.is 0
  have lr21_0 := hB21.lr 0 br21_0
  generalize hg21 : ov [(8, 0)] f21 g7 = g21
  have k21_2 := kt hg21 2 k7_2
  have k21_4 := kt hg21 4 k7_4
  have k21_5 := kt hg21 5 k7_5
  have k21_6 := kt hg21 6 k7_6
  have k21_7 := kt hg21 7 k7_7
  have k21_15 := kt hg21 15 k7_15
  have k21_8 := kt hg21 8 r21_0
  obtain ⟨W22, hW22⟩ : ∃ W', W' = W21.setRow (s21 0) #[.int .i64 ((lg j)), .bool true, .int .i64 ((j : Int)), .int .i64 ((bgF lg j)), .int .i64 ((bgF lg (j + 1)))] := ⟨_, rfl⟩
  refine tsk (o := _) rfl ⟨rfl, rfl⟩ (run_seg hW22 (fr_ev k21_8) (fr_ev k21_15) br21_0 rfl rfl rfl rfl) ?_
  obtain ⟨fB22, nb22, ot22, z22⟩ := sgf hW22 fB21 br21_0 (by omega)
  have q4' := (sgf hW22 q3' br21_0 (by omega)).1
  clear hW22
  refine wpe ?_
  have hbe_ := q4'
  refine hK _ _ hbe_ ?_
  subst hA
  exact ⟨_, rfl, k21_2, k21_4, k21_5, k21_6, k21_7, _, k21_8, nb22, by omega⟩
 case hbody =>
  intro l' j G_ a' X hj hIX hAX
  have hIX' := hIX
  subst hA
  obtain ⟨h1X, h2X, hPX⟩ := hIX
  obtain ⟨g7, rfl, k7_2, k7_4, k7_5, k7_6, k7_7, b10, k7_8, hb10, hV10⟩ := hAX
  have hzX := h2X.size
  have cb0 : X.heap[(s1 0)]? = some (.cells #[.int .i64 nu, .int .i64 de, .int .i64 tl, .slice ra n c] 128 (0, 0)) := h2X.block _ _ (by subst hG0; intro e_; rcases e_ with (e_ | e_ | e_) | e_ <;> omega) b4_0
  have cl0 := ltb cb0
  have cb4 : X.heap[(s2 3)]? = some (.cells #[.int .i64 ((usplF tl ss n).1)] 3 (0, 0)) := h2X.block _ _ (by subst hG0; intro e_; rcases e_ with (e_ | e_ | e_) | e_ <;> omega) b4_4
  have cl4 := ltb cb4
  subst hP
  obtain ⟨h1P, h2P, h3P, h5X, h6X⟩ := hPX
  have lb10_ := ltb hb10
  have hjm_ : j < m := hj
  have hbg_ := bgF_bd hq j (by omega)
  have hbe_ := bgF_bd hq (j + 1) (by omega)
  have hud_ := hU.d
  have huu_ := hU.u
  have hub_ := usplF_bd ht ho n (by omega)
  have hm1_ := tr_mul (show 0 ≤ (usplF tl ss n).1 ∧ (usplF tl ss n).1 ≤ 100000 by omega) (show 0 ≤ de ∧ de ≤ 10000 by omega)
  have hm2_ := tr_mul (show 0 ≤ bgF lg (j + 1) ∧ bgF lg (j + 1) ≤ 1000000 by omega) (show 0 ≤ nu ∧ nu ≤ 20000 by omega)
  have hlb4_ := ltb h1P; have hlb5_ := ltb h2P; have hlb6_ := ltb h3P
  have hGm_ : ∀ b, (b = (s1 1) ∨ b = (s1 2) ∨ b = (s1 3)) → G_ b := fun b hb => (h6X b).2 hb
  refine wpIn_block ?_
  refine wpIn_seq_k fun K1 hK1 => ?_
  refine wpIn_seq_k fun K2 hK2 => ?_
  refine region_doI (by repeat (first | refine noOut_then ?_ | refine noOut_block ?_ | exact fun ⟨_, _, e⟩ => e.elim (fun e => nomatch e.1) (fun e => nomatch e.1))) (by kernel_rfl) 4 [(16, 0), (17, 1), (18, 2), (9, 3)] [[], [], [0, 1], [0, 1, 2]] (rel [is (.agg #[.int .i64 nu, .int .i64 de, .int .i64 tl, .slice ra n c]),
   is (.agg #[.int .i64 ((lg j)), .bool true, .int .i64 ((j : Int)), .int .i64 ((bgF lg j)), .int .i64 ((bgF lg (j + 1)))]),
   ab fun v W => IsLi X.heap.size (lieL (lieB nu de tl ss n (bgF lg j) (bgF lg (j + 1))) n) v W,
   ab fun v W => IsLi X.heap.size (lieL (lieB nu de tl ss n (bgF lg j) (bgF lg (j + 1))) n) v W]) (by kernel_rfl) (by kernel_rfl) (by kernel_rfl) (by kernel_rfl)
   ⟨is_k, is_k, ab_k fun v W W' hb h => (IsLi.below h hb), ab_k fun v W W' hb h => (IsLi.below h hb), trivial⟩
   ⟨fun f s W x y z B C q => opl rfl rfl rfl (q.v 2 k7_2) (bwb cb0 x) Try.underlying128 rfl (by kernel_rfl) rfl,
  fun f s W x y z B C q => opl rfl rfl rfl (q.v 8 k7_8) (bwb hb10 x) Try.underlying188 rfl (by kernel_rfl) rfl,
  fun f s W x y z B C q => by have E := bwt h1X x; exact opd rfl rfl (by simp [go_sem, q.e 16 (y 0 rfl), q.e 17 (y 1 rfl)]) (ro_lies nu de tl ss ra n c ((lg j)) ((j : Int)) ((bgF lg j)) ((bgF lg (j + 1))) W hU (hO.below E) ho gn ht (by omega) (by omega)) ((fun e W' h => by obtain ⟨v, e1, ⟨a_, c_, e2, h1⟩, h2⟩ := h; have hs_ := x.size; exact ⟨v, e1, h2, ⟨a_, c_, e2, h1.low (by omega)⟩⟩)),
  fun f s W x y z B C q => opv (v := (f 2)) rfl rfl (by simp [go_sem, (q.at' 18 rfl : C.tmps[18]?.getD undef = f 2)] <;> rfl) (y 2 rfl), trivial⟩ ?_
  intro f61 s61 W61 hB61
  have z61 := hB61.below.size
  have b61_5 := hB61.b hb10
  have q8' := (KeepP.trans (KeepP.refl G_ X) (KeepP.of_below hB61.below))
  obtain ⟨a9', c10', r61_3, q11'⟩ := hB61.is 3
  refine hK2 _ _ ?_
  generalize hg61 : ov [(16, 0), (17, 1), (18, 2), (9, 3)] f61 g7 = g61
  have k61_8 := kt hg61 8 k7_8
  have k61_9 := kt hg61 9 r61_3
  refine wpIn_seq_k fun K3 hK3 => ?_
  refine region_doI (by repeat (first | refine noOut_then ?_ | refine noOut_block ?_ | exact fun ⟨_, _, e⟩ => e.elim (fun e => nomatch e.1) (fun e => nomatch e.1))) (by kernel_rfl) 8 [(19, 0), (20, 1), (21, 2), (22, 3), (23, 4), (24, 5), (25, 6), (26, 7)] [[], [0], [0, 1], [0, 1, 2], [0, 1, 2, 3], [0, 1, 2, 3, 4], [0, 1, 2, 3, 4, 5], [0, 1, 2, 3, 4, 5, 6]] (rel [is (.pointer (some ⟨b10, 0, none⟩)),
   is (.pointer (some ⟨b10, 1, none⟩)),
   is (.bool true),
   is (.bool true),
   is (.slice (a9') ((lieL (lieB nu de tl ss n (bgF lg j) (bgF lg (j + 1))) n).length) (c10')),
   is (.int .i64 (((lieL (lieB nu de tl ss n (bgF lg j) (bgF lg (j + 1))) n).length : Int))),
   is (.bool (decide (0 < ((lieL (lieB nu de tl ss n (bgF lg j) (bgF lg (j + 1))) n).length : Int)))),
   is (.bool (decide (0 < ((lieL (lieB nu de tl ss n (bgF lg j) (bgF lg (j + 1))) n).length : Int))))]) (by kernel_rfl) (by kernel_rfl) (by kernel_rfl) (by kernel_rfl)
   ⟨is_k, is_k, is_k, is_k, is_k, is_k, is_k, is_k, trivial⟩
   ⟨fun f s W x y z B C q => opv rfl rfl (by simp [go_sem, q.e 8 k61_8]) rfl,
  fun f s W x y z B C q => opv rfl rfl (by simp [go_sem, q.e 19 (y 0 rfl)]) rfl,
  fun f s W x y z B C q => opv rfl rfl (by simp [go_sem, q.e 20 (y 1 rfl), cb b61_5 x 1]) rfl,
  fun f s W x y z B C q => opv rfl rfl (by simp [go_sem, q.e 21 (y 2 rfl)]) rfl,
  fun f s W x y z B C q => osure rfl rfl (q.says (d := 22) rfl rfl (y 3 rfl)) (gv (by simp [go_sem, q.e 9 k61_9]) rfl),
  fun f s W x y z B C q => osure rfl rfl (q.says (d := 22) rfl rfl (y 3 rfl)) (gv (by simp [go_sem, q.e 23 (y 4 rfl)]) rfl),
  fun f s W x y z B C q => osure rfl rfl (q.says (d := 22) rfl rfl (y 3 rfl)) (gv (by simp [go_sem, q.e 24 (y 5 rfl)]) rfl),
  fun f s W x y z B C q => opk (c := true) rfl rfl (fun h => absurd h (by decide)) (fun _ => by simp [go_sem, q.e 22 (y 3 rfl), q.e 25 (y 6 rfl)]), trivial⟩ ?_
  intro f62 s62 W62 hB62
  have fB62 := hB62.f (hB61.f h1X)
  have z62 := hB62.below.size
  have b62_0 := hB62.b (hB61.b cb0)
  have b62_1 := hB62.b (hB61.b cb4)
  have b62_2 := hB62.b (hB61.b h1P)
  have b62_3 := hB62.b (hB61.b h2P)
  have b62_4 := hB62.b (hB61.b h3P)
  have b62_5 := hB62.b b61_5
  have q12' := (KeepP.trans q8' (KeepP.of_below hB62.below))
  have q13' := (q11'.below hB62.below)
  refine hK3 _ _ ?_
  generalize hg62 : ov [(19, 0), (20, 1), (21, 2), (22, 3), (23, 4), (24, 5), (25, 6), (26, 7)] f62 g61 = g62
  have k62_2 := kt hg62 2 (kt hg61 2 k7_2)
  have k62_4 := kt hg62 4 (kt hg61 4 k7_4)
  have k62_5 := kt hg62 5 (kt hg61 5 k7_5)
  have k62_6 := kt hg62 6 (kt hg61 6 k7_6)
  have k62_7 := kt hg62 7 (kt hg61 7 k7_7)
  have k62_8 := kt hg62 8 k61_8
  have k62_9 := kt hg62 9 k61_9
  have k62_26 := kt hg62 26 (hB62.is 7)
  refine wpIn_cond_split (t := decide (0 < ((lieL (lieB nu de tl ss n (bgF lg j) (bgF lg (j + 1))) n).length : Int))) ((fr_eval rfl).trans k62_26) (fun hc4 => ?_) (fun hc4 => ?_)
  ·
   have hc4' := hc4; try simp only [ba] at hc4'
   have hln_ : 0 < (lieL (lieB nu de tl ss n (bgF lg j) (bgF lg (j + 1))) n).length := by omega
   obtain ⟨x0_, hx0_⟩ := iis_head hln_
   obtain ⟨ga_, hga_, hR_⟩ := q13'.resolve_left (fun h_ => by obtain ⟨x1, x2, x3, x4⟩ := h_; omega)
   have hga2_ := hR_.lim
   ·
    subst hga_
    refine wpIn_seq_k fun K5 hK5 => ?_
    obtain ⟨l63, hl63⟩ : ∃ l : List Tg, [⟨(s1 1), 3, #[.int .i64 0], #[.int .i64 ((j : Int))]⟩, ⟨(s1 2), 3, #[.int .i64 0], #[.int .i64 x0_]⟩, ⟨(s1 3), 4, #[.bool false], #[.bool true]⟩] = l := ⟨_, rfl⟩
    have hm63_0 := hl63 ▸ (.head _ : (⟨(s1 1), 3, #[.int .i64 0], #[.int .i64 ((j : Int))]⟩ : Tg) ∈ ([⟨(s1 1), 3, #[.int .i64 0], #[.int .i64 ((j : Int))]⟩, ⟨(s1 2), 3, #[.int .i64 0], #[.int .i64 x0_]⟩, ⟨(s1 3), 4, #[.bool false], #[.bool true]⟩] : List Tg))
    have hm63_1 := hl63 ▸ (.tail _ (.head _) : (⟨(s1 2), 3, #[.int .i64 0], #[.int .i64 x0_]⟩ : Tg) ∈ ([⟨(s1 1), 3, #[.int .i64 0], #[.int .i64 ((j : Int))]⟩, ⟨(s1 2), 3, #[.int .i64 0], #[.int .i64 x0_]⟩, ⟨(s1 3), 4, #[.bool false], #[.bool true]⟩] : List Tg))
    have hm63_2 := hl63 ▸ (.tail _ (.tail _ (.head _)) : (⟨(s1 3), 4, #[.bool false], #[.bool true]⟩ : Tg) ∈ ([⟨(s1 1), 3, #[.int .i64 0], #[.int .i64 ((j : Int))]⟩, ⟨(s1 2), 3, #[.int .i64 0], #[.int .i64 x0_]⟩, ⟨(s1 3), 4, #[.bool false], #[.bool true]⟩] : List Tg))
    have hdi63 : tgD l63 := hl63 ▸ (by simp only [tgD, List.mem_cons, List.not_mem_nil, or_false, forall_eq_or_imp, forall_eq, false_implies, implies_true, and_true, ne_eq]; omega)
    have nx63_0 : ¬ tgS l63 (s1 0) := fun e => by rw [← hl63] at e; simp only [tgS, or_false] at e; omega
    have nx63_1 : ¬ tgS l63 (s2 3) := fun e => by rw [← hl63] at e; simp only [tgS, or_false] at e; omega
    have nx63_5 : ¬ tgS l63 b10 := fun e => by rw [← hl63] at e; simp only [tgS, or_false] at e; omega
    have hlo63 : ∀ k, tgS l63 k → w.heap.size ≤ k := fun k e => by rw [← hl63] at e; simp only [tgS, or_false] at e; omega
    have hst63 := tgP_stay l63
    have hbl63 : ∀ a b, Below a.heap.size a b → LeX (tgS l63) (tgP l63) a b := LeX.of_below hst63
    refine region_doLI (by repeat (first | refine noOut_then ?_ | refine noOut_block ?_ | exact fun ⟨_, _, e⟩ => e.elim (fun e => nomatch e.1) (fun e => nomatch e.1))) (by kernel_rfl) (LeX (tgS l63) (tgP l63)) LeX.refl (LeX.drew hst63) LeX.trans (fun _ _ h => h.size) 8 [(27, 0), (28, 1), (29, 2), (30, 3), (31, 4)] [[], [0], [], [2], [2, 3], [0, 1], [0, 1, 2, 3, 4, 5], [0, 1, 2, 3, 4, 5, 6]] (rel [is (.pointer (some ⟨b10, 2, none⟩)),
   is (.int .i64 ((j : Int))),
   is (.slice (some ⟨ga_, 0, none⟩) ((lieL (lieB nu de tl ss n (bgF lg j) (bgF lg (j + 1))) n).length) (c10')),
   is (.pointer (some ⟨ga_, 0, none⟩)),
   is (.int .i64 x0_),
   fun _ _ W => W.heap[(s1 1)]? = some (.cells #[.int .i64 ((j : Int))] 3 (0, 0)),
   fun _ _ W => W.heap[(s1 2)]? = some (.cells #[.int .i64 x0_] 3 (0, 0)),
   fun _ _ W => W.heap[(s1 3)]? = some (.cells #[.bool true] 4 (0, 0))]) (by kernel_rfl) (by kernel_rfl) (by kernel_rfl) (by kernel_rfl)
     ⟨is_kl, is_kl, is_kl, is_kl, is_kl, nowO_k hm63_0, nowO_k hm63_1, nowO_k hm63_2, trivial⟩
     ⟨fun f s W x y z B C q => OpDo.l hbl63 (opv rfl rfl (by simp [go_sem, q.e 8 k62_8]) rfl),
  fun f s W x y z B C q => OpDo.l hbl63 (opv rfl rfl (by simp [go_sem, q.e 27 (y 0 rfl), cl (blk_x b62_5 x nx63_5) 2]) rfl),
  fun f s W x y z B C q => OpDo.l hbl63 (opv rfl rfl (by simp [go_sem, q.e 9 k62_9]) rfl),
  fun f s W x y z B C q => OpDo.l hbl63 (by have li_ := Nat.not_le.2 hln_; have li2_ : (0 : Int) < ((lieL (lieB nu de tl ss n (bgF lg j) (bgF lg (j + 1))) n).length : Int) := (by omega); exact opv rfl rfl (by simp [go_sem, q.e 29 (y 2 rfl), li_, li2_]) rfl),
  fun f s W x y z B C q => OpDo.l hbl63 (by have cu_ := (World.cell?_of_block (a := ⟨ga_, 0, none⟩) (x.block ga_ hR_.2.1 (fun e => by rw [← hl63] at e; simp only [tgS, or_false] at e; omega))).trans (hR_.cell 0 hx0_); exact opv rfl rfl (by simp [go_sem, q.e 30 (y 3 rfl), cu_]) rfl),
  fun f s W x y z B C q => stoO_do hdi63 hm63_0 (x.stay _ (tgP_was hm63_0).1 (.inl b62_2)) rfl (q.v 4 k62_4) (q.v 28 (y 1 rfl)) rfl rfl rfl rfl rfl rfl,
  fun f s W x y z B C q => stoO_do hdi63 hm63_1 (x.stay _ (tgP_was hm63_1).1 (.inl b62_3)) rfl (q.v 5 k62_5) (q.v 31 (y 4 rfl)) rfl rfl rfl rfl rfl rfl,
  fun f s W x y z B C q => stoO_do hdi63 hm63_2 (x.stay _ (tgP_was hm63_2).1 (.inl b62_4)) rfl (q.v 6 k62_6) rfl rfl rfl rfl rfl rfl rfl, trivial⟩ ?_
    intro f63 s63 W63 hB63
    have fB63 : Below w.heap.size w W63 := (fB62).trans (hB63.le.below (fB62).size hlo63)
    have z63 : W62.heap.size ≤ W63.heap.size := hB63.le.size
    have b63_2 : W63.heap[(s1 1)]? = some (.cells #[.int .i64 ((j : Int))] 3 (0, 0)) := hB63.is 5
    have b63_3 : W63.heap[(s1 2)]? = some (.cells #[.int .i64 x0_] 3 (0, 0)) := hB63.is 6
    have b63_4 : W63.heap[(s1 3)]? = some (.cells #[.bool true] 4 (0, 0)) := hB63.is 7
    have q14' := (KeepP.trans q12' (keepP_lex hB63.le (fun k e_ => hGm_ k (by rw [← hl63] at e_; simp only [tgS, or_false] at e_; omega))))
    generalize hg63 : ov [(27, 0), (28, 1), (29, 2), (30, 3), (31, 4)] f63 g62 = g63
    refine wpe ?_
    refine hK5 _ _ ?_
    refine wpIn_ret ?_
    refine then_ret (inBlock_ret ?_)
    have hbd_ : (badB nu de tl ss n lg) j = true := by unfold badB; rw [hc4]; rfl
    exact .inr ⟨rfl, G_, ⟨fB63, h2X.trans (KeepP.more q14' fun b hb => by subst hG0; exact .inl ((h6X b).1 hb)), by rw [hPS]; exact ⟨_, _, b63_2, b63_3, b63_4, fltB_true hbd_ m hjm_, h6X⟩⟩, q14', fun b hb => .inl hb⟩
  ·
   have hc4' := hc4; try simp only [ba] at hc4'
   refine wpIn_skip ?_
   refine hK1 _ _ ?_
   refine wpIn_seq_k fun K6 hK6 => ?_
   refine region_doI (by repeat (first | refine noOut_then ?_ | refine noOut_block ?_ | exact fun ⟨_, _, e⟩ => e.elim (fun e => nomatch e.1) (fun e => nomatch e.1))) (by kernel_rfl) 14 [(32, 0), (33, 1), (34, 2), (35, 3), (36, 4), (37, 5), (38, 6), (39, 7), (40, 8), (41, 9), (42, 10), (43, 11), (44, 12), (45, 13)] [[], [], [1], [1, 2], [1, 2, 3], [0, 1, 2, 3, 4], [], [6], [], [8], [8, 9], [8, 9, 10], [6, 7, 8, 9, 10, 11], [0, 1, 2, 3, 4, 5, 6, 7, 8, 9, 10, 11, 12]] (rel [is (.int .i64 ((usplF tl ss n).1)),
   is (.pointer (some ⟨(s1 0), 0, none⟩)),
   is (.pointer (some ⟨(s1 0), 0, none⟩)),
   is (.pointer (some ⟨(s1 0), 1, none⟩)),
   is (.int .i64 de),
   is (.int .i64 (((usplF tl ss n).1) * de)),
   is (.pointer (some ⟨b10, 4, none⟩)),
   is (.int .i64 ((bgF lg (j + 1)))),
   is (.pointer (some ⟨(s1 0), 0, none⟩)),
   is (.pointer (some ⟨(s1 0), 0, none⟩)),
   is (.pointer (some ⟨(s1 0), 0, none⟩)),
   is (.int .i64 nu),
   is (.int .i64 ((bgF lg (j + 1)) * nu)),
   is (.bool (decide ((((usplF tl ss n).1) * de) < ((bgF lg (j + 1)) * nu))))]) (by kernel_rfl) (by kernel_rfl) (by kernel_rfl) (by kernel_rfl)
    ⟨is_k, is_k, is_k, is_k, is_k, is_k, is_k, is_k, is_k, is_k, is_k, is_k, is_k, is_k, trivial⟩
    ⟨fun f s W x y z B C q => opv rfl rfl (by simp [go_sem, q.e 7 k62_7, cb b62_1 x 0]) rfl,
  fun f s W x y z B C q => opv rfl rfl (by simp [go_sem, q.e 2 k62_2]) rfl,
  fun f s W x y z B C q => opv rfl rfl (by simp [go_sem, q.e 33 (y 1 rfl)]) rfl,
  fun f s W x y z B C q => opv rfl rfl (by simp [go_sem, q.e 34 (y 2 rfl)]) rfl,
  fun f s W x y z B C q => opv rfl rfl (by simp [go_sem, q.e 35 (y 3 rfl), cb b62_0 x 1]) rfl,
  fun f s W x y z B C q => opv rfl rfl (by simp [go_sem, q.e 32 (y 0 rfl), q.e 36 (y 4 rfl), IntWalk.i64_in (((usplF tl ss n).1) * de) (by omega)]) rfl,
  fun f s W x y z B C q => opv rfl rfl (by simp [go_sem, q.e 8 k62_8]) rfl,
  fun f s W x y z B C q => opv rfl rfl (by simp [go_sem, q.e 38 (y 6 rfl), cb b62_5 x 4]) rfl,
  fun f s W x y z B C q => opv rfl rfl (by simp [go_sem, q.e 2 k62_2]) rfl,
  fun f s W x y z B C q => opv rfl rfl (by simp [go_sem, q.e 40 (y 8 rfl)]) rfl,
  fun f s W x y z B C q => opv rfl rfl (by simp [go_sem, q.e 41 (y 9 rfl)]) rfl,
  fun f s W x y z B C q => opv rfl rfl (by simp [go_sem, q.e 42 (y 10 rfl), cb b62_0 x 0]) rfl,
  fun f s W x y z B C q => opv rfl rfl (by simp [go_sem, q.e 39 (y 7 rfl), q.e 43 (y 11 rfl), IntWalk.i64_in ((bgF lg (j + 1)) * nu) (by omega)]) rfl,
  fun f s W x y z B C q => opv rfl rfl (by simp [go_sem, q.e 37 (y 5 rfl), q.e 44 (y 12 rfl)]) rfl, trivial⟩ ?_
   intro f64 s64 W64 hB64
   have fB64 := hB64.f fB62
   have z64 := hB64.below.size
   have b64_2 := hB64.b b62_2
   have b64_3 := hB64.b b62_3
   have b64_4 := hB64.b b62_4
   have b64_5 := hB64.b b62_5
   have q15' := (KeepP.trans q12' (KeepP.of_below hB64.below))
   have q16' := (q13'.below hB64.below)
   refine hK6 _ _ ?_
   generalize hg64 : ov [(32, 0), (33, 1), (34, 2), (35, 3), (36, 4), (37, 5), (38, 6), (39, 7), (40, 8), (41, 9), (42, 10), (43, 11), (44, 12), (45, 13)] f64 g62 = g64
   have k64_4 := kt hg64 4 k62_4
   have k64_5 := kt hg64 5 k62_5
   have k64_6 := kt hg64 6 k62_6
   have k64_8 := kt hg64 8 k62_8
   have k64_45 := kt hg64 45 (hB64.is 13)
   refine wpIn_cond_split (t := decide ((((usplF tl ss n).1) * de) < ((bgF lg (j + 1)) * nu))) ((fr_eval rfl).trans k64_45) (fun hc7 => ?_) (fun hc7 => ?_)
   ·
    have hc7' := hc7; try simp only [ba] at hc7'
    refine wpIn_seq_k fun K8 hK8 => ?_
    refine region_doI (by repeat (first | refine noOut_then ?_ | refine noOut_block ?_ | exact fun ⟨_, _, e⟩ => e.elim (fun e => nomatch e.1) (fun e => nomatch e.1))) (by kernel_rfl) 2 [(46, 0), (47, 1)] [[], [0], [0, 1], [0, 1, 2], [0, 1, 2, 3]] (rel [is (.pointer (some ⟨b10, 2, none⟩)),
   is (.int .i64 ((j : Int)))]) (by kernel_rfl) (by kernel_rfl) (by kernel_rfl) (by kernel_rfl)
     ⟨is_k, is_k, trivial⟩
     ⟨fun f s W x y z B C q => opv rfl rfl (by simp [go_sem, q.e 8 k64_8]) rfl,
  fun f s W x y z B C q => opv rfl rfl (by simp [go_sem, q.e 46 (y 0 rfl), cb b64_5 x 2]) rfl, trivial⟩ ?_
    intro f65 s65 W65 hB65
    have fB65 := hB65.f fB64
    have z65 := hB65.below.size
    have b65_2 := hB65.b b64_2
    have b65_3 := hB65.b b64_3
    have b65_4 := hB65.b b64_4
    have q17' := (KeepP.trans q15' (KeepP.of_below hB65.below))
    have q18' := (q16'.below hB65.below)
    generalize hg65 : ov [(46, 0), (47, 1)] f65 g64 = g65
    have k65_4 := kt hg65 4 k64_4
    have k65_5 := kt hg65 5 k64_5
    have k65_6 := kt hg65 6 k64_6
    have k65_47 := kt hg65 47 (hB65.is 1)
    obtain ⟨W66, hW66⟩ : ∃ W', W' = W65.setRow (s1 1) #[.int .i64 ((j : Int))] := ⟨_, rfl⟩
    refine tsk (o := _) rfl ⟨rfl, rfl⟩ (run_seg hW66 (fr_ev k65_4) (fr_ev k65_47) b65_2 rfl rfl rfl rfl) ?_
    obtain ⟨fB66, nb66, ot66, z66⟩ := sgf hW66 fB65 b65_2 (by omega)
    have q19' := (KeepP.trans q17' (keepX_P (keepX_row hW66) (by first | exact hGm_ _ rfl | exact hGm_ _ (.inl rfl) | exact hGm_ _ (.inr (.inl rfl)) | exact hGm_ _ (.inr (.inr rfl)) | omega)))
    clear hW66
    have b66_3 := ot66 _ _ (by omega) b65_3
    have b66_4 := ot66 _ _ (by omega) b65_4
    obtain ⟨W67, hW67⟩ : ∃ W', W' = W66.setRow (s1 2) #[.int .i64 (-1)] := ⟨_, rfl⟩
    refine tsk (o := _) rfl ⟨rfl, rfl⟩ (run_seg hW67 (fr_ev k65_5) (rfl) b66_3 rfl rfl rfl rfl) ?_
    obtain ⟨fB67, nb67, ot67, z67⟩ := sgf hW67 fB66 b66_3 (by omega)
    have q20' := (KeepP.trans q19' (keepX_P (keepX_row hW67) (by first | exact hGm_ _ rfl | exact hGm_ _ (.inl rfl) | exact hGm_ _ (.inr (.inl rfl)) | exact hGm_ _ (.inr (.inr rfl)) | omega)))
    clear hW67
    have b67_2 := ot67 _ _ (by omega) nb66
    have b67_4 := ot67 _ _ (by omega) b66_4
    obtain ⟨W68, hW68⟩ : ∃ W', W' = W67.setRow (s1 3) #[.bool true] := ⟨_, rfl⟩
    refine tsk (o := _) rfl ⟨rfl, rfl⟩ (run_seg hW68 (fr_ev k65_6) (rfl) b67_4 rfl rfl rfl rfl) ?_
    obtain ⟨fB68, nb68, ot68, z68⟩ := sgf hW68 fB67 b67_4 (by omega)
    have q21' := (KeepP.trans q20' (keepX_P (keepX_row hW68) (by first | exact hGm_ _ rfl | exact hGm_ _ (.inl rfl) | exact hGm_ _ (.inr (.inl rfl)) | exact hGm_ _ (.inr (.inr rfl)) | omega)))
    clear hW68
    have b68_2 := ot68 _ _ (by omega) b67_2
    have b68_3 := ot68 _ _ (by omega) nb67
    refine wpe ?_
    refine hK8 _ _ ?_
    refine wpIn_ret ?_
    refine inBlock_ret ?_
    have hbd_ : (badB nu de tl ss n lg) j = true := by unfold badB; rw [hc7, Bool.or_true]
    exact .inr ⟨rfl, G_, ⟨fB68, h2X.trans (KeepP.more q21' fun b hb => by subst hG0; exact .inl ((h6X b).1 hb)), by rw [hPS]; exact ⟨_, _, b68_2, b68_3, nb68, fltB_true hbd_ m hjm_, h6X⟩⟩, q21', fun b hb => .inl hb⟩
   ·
    have hc7' := hc7; try simp only [ba] at hc7'
    refine wpIn_skip ?_
    refine ibn ?_
    have hbd_ : (badB nu de tl ss n lg) j = false := by unfold badB; rw [hc4, hc7]; rfl
    exact .inl ⟨rfl, G_, ⟨fB64, h2X.trans (KeepP.more q15' fun b hb => by subst hG0; exact .inl ((h6X b).1 hb)), b64_2, b64_3, b64_4, by rw [fltB, h5X, hbd_]; rfl, h6X⟩, q15', fun b hb => .inl hb⟩
 case hstop =>
  intro D G' Z hD hnD hIZ hdZ
  obtain ⟨h1Z, h2Z, hPZ⟩ := hIZ
  have eD : ({ (fr 48 g4) with defers := { target := .collected D, args := #[] } :: (fr 48 g4).defers } : Act) = frD [mkD D] 48 g4 := rfl
  rw [eD]
  have hzZ := h2Z.size
  have cz0 : Z.heap[(s1 0)]? = some (.cells #[.int .i64 nu, .int .i64 de, .int .i64 tl, .slice ra n c] 128 (0, 0)) := h2Z.block _ _ (by subst hG0; intro e_; rcases e_ with (e_ | e_ | e_) | e_ <;> omega) b4_0
  have cz4 : Z.heap[(s2 3)]? = some (.cells #[.int .i64 ((usplF tl ss n).1)] 3 (0, 0)) := h2Z.block _ _ (by subst hG0; intro e_; rcases e_ with (e_ | e_ | e_) | e_ <;> omega) b4_4
  have hMk_ := MarksOk.one hdZ
  subst hPS
  obtain ⟨o_, s_, h1P, h2P, h3P, h5Z, h6Z⟩ := hPZ
  refine inBlock_ret (then_ret ?_)
  refine leave_marksC (v := .tuple #[.int .i64 o_, .int .i64 s_, .bool true]) (Ds := [D]) (.inr rfl) rfl hMk_ (fun W_ hk_ => by simp [results, Try.results41, go_sem, frv 48 k4_4, cl (hk_.cellsM hMk_ h1P) 0, frv 48 k4_5, cl (hk_.cellsM hMk_ h2P) 0, frv 48 k4_6, cl (hk_.cellsM hMk_ h3P) 0]) fun W_ hk_ => ?_
  have fBL := Below.trans h1Z (hk_.below (fun b hb => (by obtain rfl := List.mem_singleton.1 hb; omega)) (Below.size h1Z))
  exact ⟨_, _, by rw [h5Z], fBL⟩
 case hdone =>
  intro D i' G' Z hD hnD hfin hIZ hdZ
  obtain ⟨h1Z, h2Z, hPZ⟩ := hIZ
  have eD : ({ (fr 48 g4) with defers := { target := .collected D, args := #[] } :: (fr 48 g4).defers } : Act) = frD [mkD D] 48 g4 := rfl
  rw [eD]
  have hzZ := h2Z.size
  have cz0 : Z.heap[(s1 0)]? = some (.cells #[.int .i64 nu, .int .i64 de, .int .i64 tl, .slice ra n c] 128 (0, 0)) := h2Z.block _ _ (by subst hG0; intro e_; rcases e_ with (e_ | e_ | e_) | e_ <;> omega) b4_0
  have cz4 : Z.heap[(s2 3)]? = some (.cells #[.int .i64 ((usplF tl ss n).1)] 3 (0, 0)) := h2Z.block _ _ (by subst hG0; intro e_; rcases e_ with (e_ | e_ | e_) | e_ <;> omega) b4_4
  have hMk_ := MarksOk.one hdZ
  subst hP
  obtain ⟨h1P, h2P, h3P, h5Z, h6Z⟩ := hPZ
  have him_ : i' = m := hfin
  subst him_
  refine ibn ?_
  refine hK3 _ _ ?_
  refine wp_seq_k fun K5 hK5 => ?_
  refine region_doD 0 [] [[], [0], [0, 1]] (rel []) (by kernel_rfl) (by kernel_rfl) (by kernel_rfl) (by kernel_rfl) trivial trivial ?_
  intro f5 s5 W5 hB5
  have fB5 := hB5.f h1Z
  have z5 := hB5.below.size
  have b5_2 := hB5.b h1P
  have b5_3 := hB5.b h2P
  have b5_4 := hB5.b h3P
  have q22' := (MarksOk.below hMk_ hB5.below)
  generalize hg5 : ov [] f5 g4 = g5
  have k5_4 := kt hg5 4 k4_4
  have k5_5 := kt hg5 5 k4_5
  have k5_6 := kt hg5 6 k4_6
  obtain ⟨W6, hW6⟩ : ∃ W', W' = W5.setRow (s1 1) #[.int .i64 0] := ⟨_, rfl⟩
  refine tail_skipD (o := _) rfl ⟨rfl, rfl⟩ (run_seg hW6 (fr_ev k5_4) (rfl) b5_2 rfl rfl rfl rfl) ?_
  obtain ⟨fB6, nb6, ot6, z6⟩ := sgf hW6 fB5 b5_2 (by omega)
  have q23' := (MarksOk.setRow q22' b5_2 hW6)
  clear hW6
  have b6_3 := ot6 _ _ (by omega) b5_3
  have b6_4 := ot6 _ _ (by omega) b5_4
  obtain ⟨W7, hW7⟩ : ∃ W', W' = W6.setRow (s1 2) #[.int .i64 0] := ⟨_, rfl⟩
  refine tail_skipD (o := _) rfl ⟨rfl, rfl⟩ (run_seg hW7 (fr_ev k5_5) (rfl) b6_3 rfl rfl rfl rfl) ?_
  obtain ⟨fB7, nb7, ot7, z7⟩ := sgf hW7 fB6 b6_3 (by omega)
  have q24' := (MarksOk.setRow q23' b6_3 hW7)
  clear hW7
  have b7_2 := ot7 _ _ (by omega) nb6
  have b7_4 := ot7 _ _ (by omega) b6_4
  obtain ⟨W8, hW8⟩ : ∃ W', W' = W7.setRow (s1 3) #[.bool false] := ⟨_, rfl⟩
  refine tail_skipD (o := _) rfl ⟨rfl, rfl⟩ (run_seg hW8 (fr_ev k5_6) (rfl) b7_4 rfl rfl rfl rfl) ?_
  obtain ⟨fB8, nb8, ot8, z8⟩ := sgf hW8 fB7 b7_4 (by omega)
  have q25' := (MarksOk.setRow q24' b7_4 hW8)
  clear hW8
  have b8_2 := ot8 _ _ (by omega) b7_2
  have b8_3 := ot8 _ _ (by omega) nb7
  refine wpe ?_
  refine hK5 _ _ ?_
  refine wp_ret ?_
  refine leave_marksC (v := .tuple #[.int .i64 0, .int .i64 0, .bool false]) (Ds := [D]) (.inr rfl) rfl q25' (fun W_ hk_ => by simp [results, Try.results41, go_sem, frv 48 k5_4, cl (hk_.cellsM q25' b8_2) 0, frv 48 k5_5, cl (hk_.cellsM q25' b8_3) 0, frv 48 k5_6, cl (hk_.cellsM q25' nb8) 0]) fun W_ hk_ => ?_
  have fBL := Below.trans fB8 (hk_.below (fun b hb => (by obtain rfl := List.mem_singleton.1 hb; omega)) (Below.size fB8))
  exact ⟨_, _, by rw [h5Z], fBL⟩
end Go.Proofs.Ytcgccflcjejlhaa
