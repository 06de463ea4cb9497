/- Part of the proof: what the claim leans on. -/
import Derived.Test.YtcgccflcjejlhaaVAS
set_option maxHeartbeats 8000000
set_option maxRecDepth 100000
set_option linter.unusedSimpArgs false
set_option linter.unusedVariables false
namespace Go.Proofs.Ytcgccflcjejlhaa
open Go.RowKit
def lieB (nu de tl : Int) (ss : Nat → Int × Int) (n : Nat) (bg en : Int) (i : Nat) : Bool := decide ((i : Int) < (n : Int) - 1) && meetF ((usplF tl ss (i + 1)).1, (usplF tl ss (i + 1)).2) ((bg * nu) / de + 1, upF (en * nu) de - 1)
def lieL (p : Nat → Bool) : Nat → List Int
  | 0 => []
  | i + 1 => if p i = true then lieL p i ++ [(i : Int)] else lieL p i
theorem lieL_len (p : Nat → Bool) : ∀ i, (lieL p i).length ≤ i
  | 0 => Nat.le_refl _
  | i + 1 => by
    have := lieL_len p i
    rw [lieL]; split
    · rw [List.length_append]; show (lieL p i).length + 1 ≤ i + 1; omega
    · omega
theorem lieL_pos {p : Nat → Bool} {j : Nat} (h : p j = true) : ∀ i, j < i → 0 < (lieL p i).length
  | 0, hj => absurd hj (Nat.not_lt_zero _)
  | i + 1, hj => by
    rw [lieL]
    rcases Nat.lt_or_ge j i with h1 | h1
    · have := lieL_pos h i h1
      split
      · rw [List.length_append]; omega
      · exact this
    · obtain rfl : j = i := by omega
      rw [if_pos h, List.length_append]; show 0 < _ + 1; omega
def IsLi (B : Nat) (L : List Int) (v : Value) (W : World) : Prop := ∃ a c, v = .slice a L.length c ∧ OwnN 3 1 B L.length (iis L) a c W
theorem IsLi.below {B : Nat} {L : List Int} {v : Value} {W W' : World} (h : IsLi B L v W) (hb : Below W.heap.size W W') : IsLi B L v W' := by
  obtain ⟨a, c, e, h⟩ := h; exact ⟨a, c, e, h.below hb⟩
theorem ro_lies (nu de tl : Int) (ss : Nat → Int × Int) (ra : Option Addr) (n c : Nat) (lg nr bg en : Int) (w : World) (hU : RoUp nu de tl) (hO : SpL w ra n ss) (ho : ∀ i, i < n → RoIn tl (ss i)) (gn : n ≤ 6) (ht : 0 ≤ tl ∧ tl ≤ 10000) (hbg : 0 ≤ bg ∧ bg ≤ 1000000) (hen : 0 ≤ en ∧ en ≤ 1000000) :
    Calls Try.prog 86 #[.agg #[.int .i64 nu, .int .i64 de, .int .i64 tl, .slice ra n c], .agg #[.int .i64 lg, .bool true, .int .i64 nr, .int .i64 bg, .int .i64 en]] w (fun e w' => ∃ v, e = .returned v ∧ IsLi w.heap.size (lieL (lieB nu de tl ss n bg en) n) v w' ∧ Below w.heap.size w w') := by
  refine calls_frM (n := 10) Try.func86 Try.ntmps86 rfl rfl fun g hg => ?_
  have k0 : g 0 = .agg #[.int .i64 nu, .int .i64 de, .int .i64 tl, .slice ra n c] := hg 0
  have k1 : g 1 = .agg #[.int .i64 lg, .bool true, .int .i64 nr, .int .i64 bg, .int .i64 en] := hg 1
  clear hg
  have fB0 : Below w.heap.size w w := Below.refl _ _
  refine wp_seq_k fun K1 hK1 => ?_
  refine ry 3 [(2, 0), (3, 1), (4, 2)] [[], [], []] (rel [bx 0 #[.int .i64 nu, .int .i64 de, .int .i64 tl, .slice ra n c] 128, bx 1 #[.int .i64 lg, .bool true, .int .i64 nr, .int .i64 bg, .int .i64 en] 188, bx 2 #[.slice none 0 0] 25])
    ⟨fun f s W l m q u x a => opb rfl rfl (by simp [go_sem, a.e 0 k0]),
    fun f s W l m q u x a => opb rfl rfl (by simp [go_sem, a.e 1 k1]),
    fun f s W l m q u x a => opb rfl rfl (by simp [go_sem]), trivial⟩ ?_
  intro f1 s1 W1 hB1 g1 hg1 z1
  obtain ⟨r1_0, br1_0⟩ := hB1.is 0
  have lr1_0 := hB1.lr 0 br1_0
  obtain ⟨r1_1, br1_1⟩ := hB1.is 1
  have lr1_1 := hB1.lr 1 br1_1
  obtain ⟨r1_2, br1_2⟩ := hB1.is 2
  have lr1_2 := hB1.lr 2 br1_2
  have ne1_0_1 := hB1.nb 0 1
  have ne1_0_2 := hB1.nb 0 2
  have ne1_1_2 := hB1.nb 1 2
  refine hK1 _ _ ?_
  have k1_2 := kt hg1 2 r1_0
  refine wp_seq_k fun K2 hK2 => ?_
  refine rw_ 2 [(7, 0), (8, 1)] [[], [0]] (rel [is (.agg #[.int .i64 nu, .int .i64 de, .int .i64 tl, .slice ra n c]), is (.func (.func 87) #[.agg #[.int .i64 nu, .int .i64 de, .int .i64 tl, .slice ra n c]] #[])])
    ⟨fun f s W l m q u x a => opl rfl rfl rfl (a.v 2 k1_2) (bwb br1_0 l) Try.underlying128 rfl (by kernel_rfl) rfl,
    fun f s W l m q u x a => opv rfl rfl (by simp [go_sem, a.e 7 (m 0 rfl)]) rfl, trivial⟩ ?_
  intro f2 s2 W2 hB2 g2 hg2 z2
  have fB2 := hB2.f (hB1.f fB0)
  have b2_0 := hB2.b br1_0
  have b2_1 := hB2.b br1_1
  have b2_2 := hB2.b br1_2
  have k2_2 := kt hg2 2 k1_2
  have k2_3 := kt hg2 3 (kt hg1 3 r1_1)
  have k2_4 := kt hg2 4 (kt hg1 4 r1_2)
  have k2_8 := kt hg2 8 (hB2.is 1)
  refine wp_block ?_
  obtain ⟨V, hV⟩ : ∃ V, W2.heap.size = V := ⟨_, rfl⟩
  have hVw_ : w.heap.size ≤ W2.heap.size := Below.size fB2
  obtain ⟨G0, hG0⟩ : ∃ G : Nat → Prop, G = fun b => b = (s1 2) := ⟨_, rfl⟩
  obtain ⟨PP, hP⟩ : ∃ P : Nat → (Nat → Prop) → World → Prop, P = fun (i : Nat) (G_ : Nat → Prop) (W_ : World) => ∃ a_ c_, W_.heap[(s1 2)]? = some (.cells #[.slice (a_) ((lieL (lieB nu de tl ss n bg en) i).length) (c_)] 25 (0, 0)) ∧ OwnN 3 1 w.heap.size (lieL (lieB nu de tl ss n bg en) i).length (iis (lieL (lieB nu de tl ss n bg en) i)) a_ c_ W_ ∧ (∀ g_, a_ = some ⟨g_, 0, none⟩ → V ≤ g_) ∧ ∀ b, G_ b ↔ b = (s1 2) ∨ a_ = some ⟨b, 0, none⟩ := ⟨_, rfl⟩
  obtain ⟨AA, hA⟩ : ∃ A : Nat → (Nat → Prop) → Act → World → Prop, A = fun (j : Nat) (G_ : Nat → Prop) (a' : Act) (W_ : World) => ∃ g' : Nat → Value, a' = fr 33 g' ∧ g' 2 = .pointer (some ⟨(s1 0), 0, none⟩) ∧ g' 3 = .pointer (some ⟨(s1 1), 0, none⟩) ∧ g' 4 = .pointer (some ⟨(s1 2), 0, none⟩) ∧ g' 5 = .int .i64 (j : Int) ∧ ∃ b10, g' 6 = .pointer (some ⟨b10, 0, none⟩) ∧ W_.heap[b10]? = some (.cells #[.int .i64 ((usplF tl ss (j + 1)).1), .int .i64 ((usplF tl ss (j + 1)).2)] 43 (0, 0)) ∧ V ≤ b10 ∧ ¬ G_ b10 := ⟨_, rfl⟩
  refine (wpIn_wide (n := 10)).1 (range_gx (n := 10) (gf := 87) (rcv := #[.agg #[.int .i64 nu, .int .i64 de, .int .i64 tl, .slice ra n c]]) (lb := #[]) ((fr_eval rfl).trans k2_8) (enters_of Try.func87 (by kernel_rfl) rfl) n (fun i _ v _ => v = #[.int .i64 (i : Int), .agg #[.int .i64 (usplF tl ss (i + 1)).1, .int .i64 (usplF tl ss (i + 1)).2]]) (fun i G v W h => by rw [h]; rfl) (RgI w W2 G0 PP) (fun _ => False) (fun _ h => h.elim) ?hIst G0 ?hG0b ?hit ?h0 AA ?hAp ?hassign ?hbody ?hdone)
  case hIst =>
    refine rgI_stab hVw_ ?_
    subst hP hG0
    rintro i G W_ W' ⟨a_, c_, h3, h4, h5, h6⟩ hk
    exact ⟨a_, c_, hk.block _ _ (fun e => e.2 ((h6 _).2 (.inl rfl))) h3, ownN_keep h4 hk (fun g e q => q.2 ((h6 g).2 (.inr e))), h5, h6⟩
  case hG0b => subst hG0; intro b hb; rw [show b = (s1 2) from hb]; exact ltb b2_2
  case hit =>
    intro l' W1 J' hl hl1 hb1 hJ's hJ'I hY' hJ0'
    have hz1 := hb1.size
    have hJG' : ∀ i G W_, J' i G W_ → ∀ b, G b → w.heap.size ≤ b ∧ b < W_.heap.size := fun i G W_ h => by
      have h_ := hJ'I i G W_ h
      subst hP hG0
      intro b hb
      obtain ⟨-, -, a_, c_, h3, h4, h5, h6⟩ := h_
      rcases (h6 b).1 hb with rfl | e
      · exact ⟨by omega, ltb h3⟩
      · exact h4.lim b e
    have fB1' := fB2.trans (hb1.mono (Below.size fB2))
    refine splices_it nu de tl ss ra n c hO ho gn ht l' G0 J' W1 fB1' hJ's hJG' (fun i G W_ hi hj q => hY' i G W_ _ hi hj q rfl) hJ0'
  case h0 =>
    subst hP hG0
    exact ⟨fB2, KeepP.refl _ _, none, 0, b2_2, ownN_nil, (fun g_ e => nomatch e), fun b => by simp⟩
  case hAp =>
    subst hA
    rintro j G_ a' X r o hl ⟨g', h1, u2, u3, u4, h2, b10, h3, h4, h5⟩
    exact ⟨g', h1, u2, u3, u4, h2, b10, h3, (World.putObj_heap_other (fun e => by rw [e, hl] at h4; cases h4)).trans h4, h5⟩
  case hassign =>
    intro l' j G_ X v K hj hIX hsz hE hK
    subst hE
    have e : ({ tmps := ((#[9, 10] : Array Tmp).zip #[.int .i64 ((j : Int)), .agg #[.int .i64 ((usplF tl ss (j + 1)).1), .int .i64 ((usplF tl ss (j + 1)).2)]]).foldl (fun t (p, v) => t.setIfInBounds p v) (fr 33 g2).tmps, defers := [] } : Act) = fr 33 (upd (upd g2 9 (.int .i64 ((j : Int)))) 10 (.agg #[.int .i64 ((usplF tl ss (j + 1)).1), .int .i64 ((usplF tl ss (j + 1)).2)])) := by
      rw [foldl_2r, ← fr_set, ← fr_set]
    rw [show (fr 33 g2 : Act).tmps = (fr 33 g2).tmps from rfl, e]
    obtain ⟨g7, hg7⟩ : ∃ g7, (upd (upd g2 9 (.int .i64 ((j : Int)))) 10 (.agg #[.int .i64 ((usplF tl ss (j + 1)).1), .int .i64 ((usplF tl ss (j + 1)).2)])) = g7 := ⟨_, rfl⟩
    rw [hg7]
    have k7_2 : g7 2 = .pointer (some ⟨(s1 0), 0, none⟩) := (congrFun hg7.symm 2).trans ((upd_other _ _ (by decide)).trans ((upd_other _ _ (by decide)).trans k2_2))
    have k7_3 : g7 3 = .pointer (some ⟨(s1 1), 0, none⟩) := (congrFun hg7.symm 3).trans ((upd_other _ _ (by decide)).trans ((upd_other _ _ (by decide)).trans k2_3))
    have k7_4 : g7 4 = .pointer (some ⟨(s1 2), 0, none⟩) := (congrFun hg7.symm 4).trans ((upd_other _ _ (by decide)).trans ((upd_other _ _ (by decide)).trans k2_4))
    have k7_9 : g7 9 = .int .i64 ((j : Int)) := (congrFun hg7.symm 9).trans ((upd_other _ _ (by decide)).trans (upd_same _ _ _))
    have k7_10 : g7 10 = .agg #[.int .i64 ((usplF tl ss (j + 1)).1), .int .i64 ((usplF tl ss (j + 1)).2)] := kt hg7 10 (upd_same _ _ _)
    have hbX : Below w.heap.size w X := hIX.1
    have hzX : W2.heap.size ≤ X.heap.size := hIX.2.1.size
    refine wpIn_seq_k fun K1 hK1 => ?_
    refine region_doI (by repeat (first | exact noOut_false | refine noOut_then ?_ | refine noOut_block ?_)) (by kernel_rfl) 1 [(5, 0)] [[]] (rel [is (.int .i64 ((j : Int)))]) (by kernel_rfl) (by kernel_rfl) (by kernel_rfl) (by kernel_rfl)
      ⟨is_k, trivial⟩
      ⟨fun f s W l m q u x a => opv rfl rfl (by simp [go_sem, a.e 9 k7_9]) rfl, trivial⟩ ?_
    intro f21 s21 W21 hB21
    have z21 := hB21.below.size
    have q1' := (bwt (Below.refl X.heap.size X) hB21.below)
    refine hK1 _ _ ?_
    generalize hg21 : ov [(5, 0)] f21 g7 = g21
    refine region_doI (by repeat (first | exact noOut_false | refine noOut_then ?_ | refine noOut_block ?_)) (by kernel_rfl) 1 [(6, 0)] [[], [0]] (rel [bx 0 #[.int .i64 0, .int .i64 0] 43]) (by kernel_rfl) (by kernel_rfl) (by kernel_rfl) (by kernel_rfl)
      ⟨bx_k, trivial⟩
      ⟨fun f s W l m q u x a => opb rfl rfl (by simp [go_sem]), trivial⟩ ?_
    intro f22 s22 W22 hB22
    have fB22 := hB22.f (hB21.f hbX)
    have z22 := hB22.below.size
    have q2' := (hB22.f q1')
    obtain ⟨r22_0, br22_0⟩ := hB22.is 0
    have lr22_0 := hB22.lr 0 br22_0
    generalize hg22 : ov [(6, 0)] f22 g21 = g22
    have k22_2 := kt hg22 2 (kt hg21 2 k7_2)
    have k22_3 := kt hg22 3 (kt hg21 3 k7_3)
    have k22_4 := kt hg22 4 (kt hg21 4 k7_4)
    have k22_10 := kt hg22 10 (kt hg21 10 k7_10)
    have k22_5 := kt hg22 5 (kt hg21 5 (hB21.is 0))
    have k22_6 := kt hg22 6 r22_0
    obtain ⟨W23, hW23⟩ : ∃ W', W' = W22.setRow (s22 0) #[.int .i64 ((usplF tl ss (j + 1)).1), .int .i64 ((usplF tl ss (j + 1)).2)] := ⟨_, rfl⟩
    refine tsk (o := _) rfl ⟨rfl, rfl⟩ (run_seg hW23 (fr_ev k22_6) (fr_ev k22_10) br22_0 rfl rfl rfl rfl) ?_
    obtain ⟨fB23, nb23, ot23, z23⟩ := sgf hW23 fB22 br22_0 (by omega)
    have q3' := (sgf hW23 q2' br22_0 (by omega)).1
    clear hW23
    refine wpe ?_
    have hbe_ := q3'
    refine hK _ _ hbe_ ?_
    subst hA
    exact ⟨_, rfl, k22_2, k22_3, k22_4, k22_5, _, k22_6, nb23, by omega, fun hg_ => by have h_ := hIX.2.2; subst hP; obtain ⟨a_, c_, h3, h4, h5, h6⟩ := h_; rcases (h6 _).1 hg_ with e | e; have := ltb h3; omega; have := h4.lim _ e; omega⟩
  case hbody =>
    intro l' j G_ a' X hj hIX hAX
    have hIX' := hIX
    subst hA
    obtain ⟨h1X, h2X, hPX⟩ := hIX
    obtain ⟨g7, rfl, k7_2, k7_3, k7_4, k7_5, b10, k7_6, hb10, hV10, hn10⟩ := hAX
    have hzX := h2X.size
    have cb0 : X.heap[(s1 0)]? = some (.cells #[.int .i64 nu, .int .i64 de, .int .i64 tl, .slice ra n c] 128 (0, 0)) := h2X.block _ _ (by subst hG0; intro e_; rcases e_ with e_ | e_ <;> omega) b2_0
    have cl0 := ltb cb0
    have cb1 : X.heap[(s1 1)]? = some (.cells #[.int .i64 lg, .bool true, .int .i64 nr, .int .i64 bg, .int .i64 en] 188 (0, 0)) := h2X.block _ _ (by subst hG0; intro e_; rcases e_ with e_ | e_ <;> omega) b2_1
    have cl1 := ltb cb1
    subst hP
    obtain ⟨aX, cX, h3X, h4X, h5X, h6X⟩ := hPX
    have lb4_ := ltb h3X
    have lb10_ := ltb hb10
    have hlw_ : w.heap.size ≤ (s1 2) := by omega
    have hub_ := usplF_bd ht ho (j + 1) (by omega)
    have hlen_ := lieL_len (lieB nu de tl ss n bg en) j
    have hGm_ : ∀ b, (b = (s1 2) ∨ aX = some ⟨b, 0, none⟩) → G_ b := fun b hb => (h6X b).2 hb
    refine wpIn_block ?_
    refine wpIn_seq_k fun K1 hK1 => ?_
    refine region_doI (by repeat (first | refine noOut_then ?_ | refine noOut_block ?_ | exact fun ⟨_, _, e⟩ => nomatch e.1)) (by kernel_rfl) 17 [(11, 0), (12, 1), (13, 2), (14, 3), (15, 4), (16, 5), (17, 6), (18, 7), (19, 8), (20, 9), (21, 10), (22, 11), (23, 12), (24, 13), (25, 14), (26, 15), (27, 16)] [[], [], [1], [1, 2], [1, 2, 3], [1, 2, 3, 4], [0, 1, 2, 3, 4, 5], [0, 1, 2, 3, 4, 5, 6], [0, 1, 2, 3, 4, 5, 6, 7], [0, 1, 2, 3, 4, 5, 6, 7], [0, 1, 2, 3, 4, 5, 6, 7], [0, 1, 2, 3, 4, 5, 6, 7, 10], [0, 1, 2, 3, 4, 5, 6, 7], [0, 1, 2, 3, 4, 5, 6, 7, 12], [0, 1, 2, 3, 4, 5, 6, 7, 9, 10, 11, 12, 13], [0, 1, 2, 3, 4, 5, 6, 7, 8, 9, 10, 11, 12, 13, 14], [0, 1, 2, 3, 4, 5, 6, 7, 8, 9, 10, 11, 12, 13, 14, 15]] (rel [is (.int .i64 ((j : Int))),
      is (.pointer (some ⟨(s1 0), 0, none⟩)),
      is (.pointer (some ⟨(s1 0), 3, none⟩)),
      is (.slice ra n c),
      is (.int .i64 ((n : Int))),
      is (.int .i64 ((n : Int) - 1)),
      is (.bool (decide ((j : Int) < ((n : Int) - 1)))),
      is (.bool (decide ((j : Int) < ((n : Int) - 1)))),
      gd (decide ((j : Int) < ((n : Int) - 1))) true (is (.agg #[.int .i64 ((usplF tl ss (j + 1)).1), .int .i64 ((usplF tl ss (j + 1)).2)])),
      gd (decide ((j : Int) < ((n : Int) - 1))) true (is (.agg #[.int .i64 nu, .int .i64 de, .int .i64 tl, .slice ra n c])),
      gd (decide ((j : Int) < ((n : Int) - 1))) true (is (.pointer (some ⟨(s1 1), 3, none⟩))),
      gd (decide ((j : Int) < ((n : Int) - 1))) true (is (.int .i64 bg)),
      gd (decide ((j : Int) < ((n : Int) - 1))) true (is (.pointer (some ⟨(s1 1), 4, none⟩))),
      gd (decide ((j : Int) < ((n : Int) - 1))) true (is (.int .i64 en)),
      gd (decide ((j : Int) < ((n : Int) - 1))) true (is (.agg #[.int .i64 (((bg * nu) / de + 1)), .int .i64 ((upF (en * nu) de - 1))])),
      gd (decide ((j : Int) < ((n : Int) - 1))) true (is (.bool (meetF ((usplF tl ss (j + 1)).1, (usplF tl ss (j + 1)).2) (((bg * nu) / de + 1), (upF (en * nu) de - 1))))),
      is (.bool ((decide ((j : Int) < ((n : Int) - 1))) && (meetF ((usplF tl ss (j + 1)).1, (usplF tl ss (j + 1)).2) (((bg * nu) / de + 1), (upF (en * nu) de - 1)))))]) (by kernel_rfl) (by kernel_rfl) (by kernel_rfl) (by kernel_rfl)
      ⟨is_k, is_k, is_k, is_k, is_k, is_k, is_k, is_k, gd_k (is_k), gd_k (is_k), gd_k (is_k), gd_k (is_k), gd_k (is_k), gd_k (is_k), gd_k (is_k), gd_k (is_k), is_k, trivial⟩
      ⟨fun f s W l m q u x a => opv rfl rfl (by simp [go_sem, a.e 5 k7_5]) rfl,
    fun f s W l m q u x a => opv rfl rfl (by simp [go_sem, a.e 2 k7_2]) rfl,
    fun f s W l m q u x a => opv rfl rfl (by simp [go_sem, a.e 12 (m 1 rfl)]) rfl,
    fun f s W l m q u x a => opv rfl rfl (by simp [go_sem, a.e 13 (m 2 rfl), cb cb0 l 3]) rfl,
    fun f s W l m q u x a => opv rfl rfl (by simp [go_sem, a.e 14 (m 3 rfl)]) rfl,
    fun f s W l m q u x a => opv rfl rfl (by simp [go_sem, a.e 15 (m 4 rfl), IntWalk.i64_in ((n : Int) - 1) (by omega)]) rfl,
    fun f s W l m q u x a => opv rfl rfl (by simp [go_sem, a.e 11 (m 0 rfl), a.e 16 (m 5 rfl)]) rfl,
    fun f s W l m q u x a => opv rfl rfl (by simp [go_sem, a.e 17 (m 6 rfl)]) rfl,
    fun f s W l m q u x a => gdo rfl rfl (a.says (d := 18) rfl rfl (m 7 rfl)) fun hgd0 => gv (by simp [go_sem, a.e 6 k7_6, cb hb10 l 0, cb hb10 l 1]) rfl,
    fun f s W l m q u x a => gdo rfl rfl (a.says (d := 18) rfl rfl (m 7 rfl)) fun hgd0 => gv (by simp [go_sem, a.e 2 k7_2, cb cb0 l 0, cb cb0 l 1, cb cb0 l 2, cb cb0 l 3]) rfl,
    fun f s W l m q u x a => gdo rfl rfl (a.says (d := 18) rfl rfl (m 7 rfl)) fun hgd0 => gv (by simp [go_sem, a.e 3 k7_3]) rfl,
    fun f s W l m q u x a => gdo rfl rfl (a.says (d := 18) rfl rfl (m 7 rfl)) fun hgd0 => gv (by simp [go_sem, a.e 21 ((m 10 rfl).1 hgd0), cb cb1 l 3]) rfl,
    fun f s W l m q u x a => gdo rfl rfl (a.says (d := 18) rfl rfl (m 7 rfl)) fun hgd0 => gv (by simp [go_sem, a.e 3 k7_3]) rfl,
    fun f s W l m q u x a => gdo rfl rfl (a.says (d := 18) rfl rfl (m 7 rfl)) fun hgd0 => gv (by simp [go_sem, a.e 23 ((m 12 rfl).1 hgd0), cb cb1 l 4]) rfl,
    fun f s W l m q u x a => gdo rfl rfl (a.says (d := 18) rfl rfl (m 7 rfl)) fun hgd0 => gc (by simp [go_sem, a.e 20 ((m 9 rfl).1 hgd0), a.e 22 ((m 11 rfl).1 hgd0), a.e 24 ((m 13 rfl).1 hgd0)]) (ro_amounts nu de tl ra n c (bg) (en) W hU (by omega) (by omega)),
    fun f s W l m q u x a => gdo rfl rfl (a.says (d := 18) rfl rfl (m 7 rfl)) fun hgd0 => gc (by simp [go_sem, a.e 19 ((m 8 rfl).1 hgd0), a.e 25 ((m 14 rfl).1 hgd0)]) (ro_meet ((usplF tl ss (j + 1)).1) ((usplF tl ss (j + 1)).2) (((bg * nu) / de + 1)) ((upF (en * nu) de - 1)) W),
    fun f s W l m q u x a => opk (c := decide ((j : Int) < ((n : Int) - 1))) rfl rfl (fun hpk => by first | (simp [go_sem, hpk, a.e 18 (m 7 rfl)]; done) | (have hpk' := hpk; simp at hpk'; simp [go_sem, hpk', hpk, a.e 18 (m 7 rfl)]; done) | (have hpk' := of_decide_eq_false hpk; simp only [Int.ofNat_lt] at hpk'; simp [go_sem, hpk', hpk, a.e 18 (m 7 rfl)])) (fun hpk => by first | (simp [go_sem, hpk, a.e 18 (m 7 rfl), a.e 26 ((m 15 rfl).1 hpk)]; done) | (have hpk' := hpk; simp at hpk'; simp [go_sem, hpk', hpk, a.e 18 (m 7 rfl), a.e 26 ((m 15 rfl).1 hpk)]; done) | (have hpk' := of_decide_eq_false hpk; simp only [Int.ofNat_lt] at hpk'; simp [go_sem, hpk', hpk, a.e 18 (m 7 rfl), a.e 26 ((m 15 rfl).1 hpk)])), trivial⟩ ?_
    intro f61 s61 W61 hB61
    have fB61 := hB61.f h1X
    have z61 := hB61.below.size
    have b61_2 := hB61.b h3X
    have q4' := (KeepP.trans (KeepP.refl G_ X) (KeepP.of_below hB61.below))
    have q5' := (h4X.below hB61.below)
    refine hK1 _ _ ?_
    generalize hg61 : ov [(11, 0), (12, 1), (13, 2), (14, 3), (15, 4), (16, 5), (17, 6), (18, 7), (19, 8), (20, 9), (21, 10), (22, 11), (23, 12), (24, 13), (25, 14), (26, 15), (27, 16)] f61 g7 = g61
    have k61_4 := kt hg61 4 k7_4
    have k61_5 := kt hg61 5 k7_5
    have k61_27 := kt hg61 27 (hB61.is 16)
    refine wpIn_cond_split (t := (decide ((j : Int) < ((n : Int) - 1))) && (meetF ((usplF tl ss (j + 1)).1, (usplF tl ss (j + 1)).2) (((bg * nu) / de + 1), (upF (en * nu) de - 1)))) ((fr_eval rfl).trans k61_27) (fun hc2 => ?_) (fun hc2 => ?_)
    ·
      have hc2' := hc2; try simp only [ba] at hc2'
      refine region_doI (by repeat (first | refine noOut_then ?_ | refine noOut_block ?_ | exact fun ⟨_, _, e⟩ => nomatch e.1)) (by kernel_rfl) 3 [(28, 0), (29, 1), (30, 2), (31, 3)] [[], [], [1], [0, 1, 2], [0, 1, 2, 3]] (rel [is (.slice (aX) ((lieL (lieB nu de tl ss n bg en) j).length) (cX)),
      is (.int .i64 ((j : Int))),
      row 2 1 #[.int .i64 ((j : Int))] 3]) (by kernel_rfl) (by kernel_rfl) (by kernel_rfl) (by kernel_rfl)
        ⟨is_k, is_k, row_k, trivial⟩
        ⟨fun f s W l m q u x a => opv rfl rfl (by simp [go_sem, a.e 4 k61_4, cb b61_2 l 0]) rfl,
    fun f s W l m q u x a => opv rfl rfl (by simp [go_sem, a.e 5 k61_5]) rfl,
    fun f s W l m q u x a => opr rfl rfl (by simp [go_sem, a.e 29 (m 1 rfl)]), trivial⟩ ?_
      intro f62 s62 W62 hB62
      have fB62 := hB62.f fB61
      have z62 := hB62.below.size
      have b62_2 := hB62.b b61_2
      have q6' := (KeepP.trans q4' (KeepP.of_below hB62.below))
      have q7' := (q5'.below hB62.below)
      obtain ⟨r62_2, br62_2⟩ := hB62.is 2
      have lr62_2 := hB62.lr 2 br62_2
      generalize hg62 : ov [(28, 0), (29, 1), (30, 2), (31, 3)] f62 g61 = g62
      have k62_28 := kt hg62 28 (hB62.is 0)
      have k62_30 := kt hg62 30 r62_2
      obtain ⟨ga63, ca63, W63, ra63, ow63, ot63, z63, gg63, fB63⟩ := growN_tail 25 25 3 1 8 _ (by kernel_rfl) da_infoI rfl (iis (lieL (lieB nu de tl ss n bg en) j) ++ [.int .i64 ((j : Int))]) ((lieL (lieB nu de tl ss n bg en) j).length + 1) (off := 0) (k := 1) (c' := 1) [.int .i64 ((j : Int))] fB62 q7' rfl rfl rfl rfl (cells_at br62_2) (by omega)
      refine tail_value2 (o := _) rfl rfl rfl (run_appendOp (fr_ev k62_28) (fr_ev k62_30) ra63) ?_
      have b63_2 := ot63 _ _ (ownN_ne q7' b62_2 (by decide)) b62_2
      have q8' : KeepP G_ X W63 := KeepP.trans q6' ⟨fB63.os.trans fB62.os.symm, fB63.tape.trans fB62.tape.symm, fB63.output.trans fB62.output.symm, z63, fun k o hk hx => ot63 _ _ (fun g_ e_ h_ => hk ((h6X _).2 (.inr (h_ ▸ e_)))) hx⟩
      have on63 : OwnN 3 1 w.heap.size ((lieL (lieB nu de tl ss n bg en) j) ++ [(j : Int)]).length (iis ((lieL (lieB nu de tl ss n bg en) j) ++ [(j : Int)])) (some ⟨ga63, 0, none⟩) ca63 W63 := .inr ⟨_, rfl, by rw [← iis_snoc, List.length_append]; exact ow63⟩
      generalize hg63 : upd g62 31 (.slice (some ⟨ga63, 0, none⟩) ((lieL (lieB nu de tl ss n bg en) j).length + 1) (ca63)) = g63
      have k63_4 := ku hg63 4 (kt hg62 4 k61_4)
      have k63_31 := kt hg63 31 (upd_same _ _ _)
      obtain ⟨W64, hW64⟩ : ∃ W', W' = W63.setRow (s1 2) #[.slice (some ⟨ga63, 0, none⟩) ((lieL (lieB nu de tl ss n bg en) j).length + 1) (ca63)] := ⟨_, rfl⟩
      refine tsk (o := _) rfl ⟨rfl, rfl⟩ (run_seg hW64 (fr_ev k63_4) (fr_ev k63_31) b63_2 rfl rfl rfl rfl) ?_
      obtain ⟨fB64, nb64, ot64, z64⟩ := sgf hW64 fB63 b63_2 (by omega)
      have q9' := (KeepP.trans q8' (keepX_P (keepX_row hW64) (by first | exact hGm_ _ rfl | exact hGm_ _ (.inl rfl) | exact hGm_ _ (.inr (.inl rfl)) | exact hGm_ _ (.inr (.inr rfl)) | omega)))
      clear hW64
      have q10' := on63.other ot64 (ownN_ne on63 b63_2 (by decide)) z64
      refine wpe ?_
      refine ibn ?_
      have e_ : (lieL (lieB nu de tl ss n bg en) (j + 1)) = (lieL (lieB nu de tl ss n bg en) j) ++ [(j : Int)] := if_pos hc2
      have hng_ : ∀ b, (b = (s1 2) ∨ (some ⟨ga63, 0, none⟩ : Option Addr) = some ⟨b, 0, none⟩) → G_ b ∨ X.heap.size ≤ b := fun b hb => by
        rcases hb with hb | hb
        · exact .inl ((h6X b).2 (.inl hb))
        · cases hb
          rcases gg63 with gg_ | gg_
          · exact .inl ((h6X _).2 (.inr gg_))
          · exact .inr (by omega)
      exact ⟨rfl, fun b => b = (s1 2) ∨ (some ⟨ga63, 0, none⟩ : Option Addr) = some ⟨b, 0, none⟩, ⟨fB64, h2X.trans (KeepP.more q9' fun b hb => by subst hG0; exact ((h6X b).1 hb).imp id fun e => by have := h5X b e; omega), by dsimp only; rw [e_, List.length_append]; exact ⟨_, _, nb64, by rw [← List.length_append]; exact q10', fun g_ e => (by cases e; rcases gg63 with gg_ | gg_; exact h5X _ gg_; omega), fun b => Iff.rfl⟩⟩, q9', hng_⟩
    ·
      have hc2' := hc2; try simp only [ba] at hc2'
      refine wpIn_skip ?_
      refine ibn ?_
      have e_ : (lieL (lieB nu de tl ss n bg en) (j + 1)) = (lieL (lieB nu de tl ss n bg en) j) := if_neg (by rw [show (lieB nu de tl ss n bg en) j = _ from hc2]; decide)
      exact ⟨rfl, G_, ⟨fB61, h2X.trans (KeepP.more q4' fun b hb => by subst hG0; exact ((h6X b).1 hb).imp id fun e => by have := h5X b e; omega), by dsimp only; rw [e_]; exact ⟨_, _, b61_2, q5', h5X, h6X⟩⟩, q4', fun b hb => .inl hb⟩
  case hdone =>
    intro D G' Z hD hnD hIZ hdZ
    obtain ⟨h1Z, h2Z, hPZ⟩ := hIZ
    have eD : ({ (fr 33 g2) with defers := { target := .collected D, args := #[] } :: (fr 33 g2).defers } : Act) = frD [mkD D] 33 g2 := rfl
    rw [eD]
    have hzZ := h2Z.size
    have cz0 : Z.heap[(s1 0)]? = some (.cells #[.int .i64 nu, .int .i64 de, .int .i64 tl, .slice ra n c] 128 (0, 0)) := h2Z.block _ _ (by subst hG0; intro e_; rcases e_ with e_ | e_ <;> omega) b2_0
    have cz1 : Z.heap[(s1 1)]? = some (.cells #[.int .i64 lg, .bool true, .int .i64 nr, .int .i64 bg, .int .i64 en] 188 (0, 0)) := h2Z.block _ _ (by subst hG0; intro e_; rcases e_ with e_ | e_ <;> omega) b2_1
    have hMk_ := MarksOk.one hdZ
    subst hP
    obtain ⟨aZ, cZ, h3Z, h4Z, h5Z, h6Z⟩ := hPZ
    refine ibn ?_
    refine hK2 _ _ ?_
    refine wp_seq_k fun K4 hK4 => ?_
    refine region_doD 2 [(32, 0)] [[], [0]] (rel [is (.slice (aZ) ((lieL (lieB nu de tl ss n bg en) n).length) (cZ)),
      is (undef)]) (by kernel_rfl) (by kernel_rfl) (by kernel_rfl) (by kernel_rfl)
      ⟨is_k, is_k, trivial⟩
      ⟨fun f s W l m q u x a => opv rfl rfl (by simp [go_sem, a.e 4 k2_4, cb h3Z l 0]) rfl,
    fun f s W l m q u x a => ops_same rfl ⟨rfl, rfl⟩ (run_seg (setRow_self W _ _ _ _ (bwb h3Z l)).symm (a.v 4 k2_4) (a.v 32 (m 0 rfl)) (bwb h3Z l) rfl rfl rfl rfl), trivial⟩ ?_
    intro f3 s3 W3 hB3
    have fB3 := hB3.f h1Z
    have z3 := hB3.below.size
    have b3_2 := hB3.b h3Z
    have q11' := (MarksOk.below hMk_ hB3.below)
    have q12' := (h4Z.below hB3.below)
    refine hK4 _ _ ?_
    generalize hg3 : ov [(32, 0)] f3 g2 = g3
    have k3_4 := kt hg3 4 k2_4
    refine wp_ret ?_
    refine leave_marksC (v := .slice (aZ) ((lieL (lieB nu de tl ss n bg en) n).length) (cZ)) (Ds := [D]) (.inr rfl) rfl q11' (fun W_ hk_ => by simp [results, Try.results86, go_sem, frv 33 k3_4, cl (hk_.cellsM q11' b3_2) 0]) fun W_ hk_ => ?_
    have fBL := Below.trans fB3 (hk_.below (fun b hb => (by obtain rfl := List.mem_singleton.1 hb; omega)) (Below.size fB3))
    exact ⟨_, rfl, ⟨_, _, rfl, ownN_keep q12' hk_ (fun g_ e q => by have := h5Z g_ e; obtain rfl := List.mem_singleton.1 q; exact hnD ((h6Z _).2 (.inr e)))⟩, fBL⟩
end Go.Proofs.Ytcgccflcjejlhaa
