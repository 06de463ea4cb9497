/- Part of the proof: what the claim leans on. -/
import Derived.Test.YtolnpbpeifpbjaaQAM
set_option linter.unusedSimpArgs false
set_option linter.unusedVariables false
namespace Go.Proofs.Ytolnpbpeifpbjaa
open Go.RowKit
theorem wpIn_loop_n {F : Fence} {n0 : Nat} {P : Program} {Q : Exit → Act → World → Prop} {c : Code} {a : Act} {w : World} (Inv : Nat → Act → World → Prop) (h0 : ∃ n, Inv n a w)
    (round : ∀ n a w, Inv n a w → c.wpIn F n0 P (Exit.then (fun a' w' => ∃ m, m < n ∧ Inv m a' w') Q) a w) : (Code.loop c).wpIn F n0 P Q a w := by
  classical
  have key : ∀ a w, (∃ n, Inv n a w) → ∃ n, Inv n a w ∧ ∀ m, Inv m a w → n ≤ m := fun a w h => exists_least h
  refine wpIn_loop (fun a w => ∃ n, Inv n a w) (fun a w => if h : ∃ n, Inv n a w then Classical.choose (key a w h) else 0) h0 fun a w h => ?_
  have hs := (Classical.choose_spec (key a w h)).1
  refine wpIn_mono (round _ a w hs) fun e a' w' hq => ?_
  cases e with
  | normal =>
    obtain ⟨m, hm, hI⟩ := hq
    refine ⟨⟨m, hI⟩, ?_⟩
    have h' : ∃ n, Inv n a' w' := ⟨m, hI⟩
    simp only [dif_pos h, dif_pos h']
    exact Nat.lt_of_le_of_lt ((Classical.choose_spec (key a' w' h')).2 m hI) hm
  | _ => exact hq
theorem foldl_one (X : Array Value) (p : Tmp) (a : Value) : ((#[p] : Array Tmp).zip #[a]).foldl (fun t (p, v) => t.setIfInBounds p v) X = X.setIfInBounds p a := by
  simp [Array.zip, ← Array.foldl_toList]
set_option maxRecDepth 100000 in
set_option maxHeartbeats 8000000 in
theorem most_A (q : Qu) (bs os cs : Nat) (mo an : Int) (w : World) (hR : StepR w bs os q) (hq : QuIn q) (han : q.sf ≤ an ∧ an ≤ 100000) (hit_ : ∀ x, q.sf ≤ x → x ≤ 100000 → (priceQ q x ≤ mo ↔ x ≤ an)) :
    Calls Try.prog 30 #[.agg #[.int .i64 q.ar, .int .i64 q.bo, .int .i64 q.wa, .int .i64 q.tl, .int .i64 q.se, .int .i64 q.ru, .int .i64 q.wo, .int .i64 q.pl, .int .i64 q.fr, .int .i64 q.ma, .slice (some ⟨bs, os, none⟩) (1) (cs)], .int .i64 mo] w (fun e w' => e = .returned (.int .i64 an) ∧ Below w.heap.size w w') := by
  refine calls_frM (n := 8) Try.func30 Try.ntmps30 rfl rfl fun g hg => ?_
  have k0 : g 0 = .agg #[.int .i64 q.ar, .int .i64 q.bo, .int .i64 q.wa, .int .i64 q.tl, .int .i64 q.se, .int .i64 q.ru, .int .i64 q.wo, .int .i64 q.pl, .int .i64 q.fr, .int .i64 q.ma, .slice (some ⟨bs, os, none⟩) (1) (cs)] := hg 0
  have k1 : g 1 = .int .i64 mo := hg 1
  clear hg
  have fB0 : Below w.heap.size w w := Below.refl _ _
  refine wp_seq_k fun K1 hK1 => ?_
  refine region_dk 3 [(2, 0), (3, 1), (4, 2)] [[], [], []] (rel [bx 0 #[.int .i64 q.ar, .int .i64 q.bo, .int .i64 q.wa, .int .i64 q.tl, .int .i64 q.se, .int .i64 q.ru, .int .i64 q.wo, .int .i64 q.pl, .int .i64 q.fr, .int .i64 q.ma, .slice (some ⟨bs, os, none⟩) (1) (cs)] 86,
      bx 1 #[.int .i64 mo] 3,
      bx 2 #[.int .i64 0] 3])
    ⟨bx_k, bx_k, bx_k, trivial⟩
    ⟨fun f s W j k l m r a => opb rfl rfl (by simp [go_sem, a.e 0 k0]),
    fun f s W j k l m r a => opb rfl rfl (by simp [go_sem, a.e 1 k1]),
    fun f s W j k l m r a => opb rfl rfl (by simp [go_sem]), trivial⟩ ?_
  intro f1 s1 W1 hB1 g1 hg1
  have fB1 := hB1.f fB0
  have z1 := hB1.below.size
  obtain ⟨r1_0, br1_0⟩ := hB1.is 0
  have lr1_0 := hB1.lr 0 br1_0
  obtain ⟨r1_1, br1_1⟩ := hB1.is 1
  have lr1_1 := hB1.lr 1 br1_1
  obtain ⟨r1_2, br1_2⟩ := hB1.is 2
  have lr1_2 := hB1.lr 2 br1_2
  have ne1_0_1 := hB1.nb 0 1
  have ne1_0_2 := hB1.nb 0 2
  have ne1_1_2 := hB1.nb 1 2
  refine hK1 _ _ ?_
  have k1_2 := kt hg1 2 r1_0
  have k1_3 := kt hg1 3 r1_1
  have k1_4 := kt hg1 4 r1_2
  refine wp_seq_k fun K2 hK2 => ?_
  refine wp_seq_k fun K3 hK3 => ?_
  refine region_dk 2 [(7, 0), (8, 1)] [[], [0]] (rel [is (.agg #[.int .i64 q.ar, .int .i64 q.bo, .int .i64 q.wa, .int .i64 q.tl, .int .i64 q.se, .int .i64 q.ru, .int .i64 q.wo, .int .i64 q.pl, .int .i64 q.fr, .int .i64 q.ma, .slice (some ⟨bs, os, none⟩) (1) (cs)]),
      is (.func (.func 53) #[.agg #[.int .i64 q.ar, .int .i64 q.bo, .int .i64 q.wa, .int .i64 q.tl, .int .i64 q.se, .int .i64 q.ru, .int .i64 q.wo, .int .i64 q.pl, .int .i64 q.fr, .int .i64 q.ma, .slice (some ⟨bs, os, none⟩) (1) (cs)]] #[])])
    ⟨is_k, is_k, trivial⟩
    ⟨fun f s W j k l m r a => opl rfl rfl rfl (a.v 2 k1_2) (blk_below br1_0 j) Try.underlying86 rfl (by kernel_rfl) rfl,
    fun f s W j k l m r a => opv rfl rfl (by simp [go_sem, a.e 7 (k 0 rfl)]) rfl, trivial⟩ ?_
  intro f2 s2 W2 hB2 g2 hg2
  have fB2 := hB2.f fB1
  have z2 := hB2.below.size
  have b2_0 := hB2.b br1_0
  have b2_1 := hB2.b br1_1
  have b2_2 := hB2.b br1_2
  refine hK3 _ _ ?_
  have k2_2 := kt hg2 2 k1_2
  have k2_3 := kt hg2 3 k1_3
  have k2_4 := kt hg2 4 k1_4
  have k2_8 := kt hg2 8 (hB2.is 1)
  refine wp_block ?_
  have hl0 := lt_of_blk b2_0
  have hl1 := lt_of_blk b2_1
  have hl2 := lt_of_blk b2_2
  obtain ⟨I, hI⟩ : ∃ I : Nat → World → Prop, (fun i W => Below w.heap.size w W ∧ W2.heap.size ≤ W.heap.size ∧ W.heap[(s1 0)]? = some (.cells #[.int .i64 q.ar, .int .i64 q.bo, .int .i64 q.wa, .int .i64 q.tl, .int .i64 q.se, .int .i64 q.ru, .int .i64 q.wo, .int .i64 q.pl, .int .i64 q.fr, .int .i64 q.ma, .slice (some ⟨bs, os, none⟩) (1) (cs)] 86 (0, 0)) ∧ W.heap[(s1 1)]? = some (.cells #[.int .i64 mo] 3 (0, 0)) ∧ W.heap[(s1 2)]? = some (.cells #[.int .i64 (if i ≤ 0 then 0 else an)] 3 (0, 0))) = I := ⟨_, rfl⟩
  obtain ⟨AA, hA⟩ : ∃ A : Nat → Nat → Act → World → Prop, (fun B i a' W => ∃ (g' : Nat → Value) (b5 : Nat), a' = fr 47 g' ∧ g' 2 = .pointer (some ⟨(s1 0), 0, none⟩) ∧ g' 3 = .pointer (some ⟨(s1 1), 0, none⟩) ∧ g' 4 = .pointer (some ⟨(s1 2), 0, none⟩) ∧ g' 5 = .pointer (some ⟨b5, 0, none⟩) ∧ B ≤ b5 ∧ W2.heap.size + 1 < b5 ∧ W.heap[b5]? = some (.cells #[.int .i64 q.sf, .int .i64 100000] 62 (0, 0))) = A := ⟨_, rfl⟩
  refine (wpIn_wide (n := 8)).1 (range_retB (n := 8) (gf := 53) (rcv := #[.agg #[.int .i64 q.ar, .int .i64 q.bo, .int .i64 q.wa, .int .i64 q.tl, .int .i64 q.se, .int .i64 q.ru, .int .i64 q.wo, .int .i64 q.pl, .int .i64 q.fr, .int .i64 q.ma, .slice (some ⟨bs, os, none⟩) (1) (cs)]]) (lb := #[]) ((fr_eval rfl).trans k2_8) (enters_of Try.func53 (by kernel_rfl) rfl) 0 (fun i => #[.agg #[.int .i64 q.sf, .int .i64 100000]]) (fun _ => rfl) (fun b => b = (s1 2)) I ?hIb ?hIp ?hit ?h0 AA ?hAp ?hassign ?hS ?hbody ?hbodym ?hstop)
  case hIb =>
    subst hI
    rintro i B X Y hB ⟨h1, h2, h3, h4, h5⟩ hb
    exact ⟨h1.trans (hb.mono (by omega)), Nat.le_trans h2 hb.size, (hb.block _ (by omega)).trans h3, (hb.block _ (by omega)).trans h4, (hb.block _ (by omega)).trans h5⟩
  case hIp =>
    subst hI
    rintro i X l' o hl ⟨h1, h2, h3, h4, h5⟩
    have hb : Below W2.heap.size X (X.putObj l' o) := below_put hl
    exact ⟨h1.trans (hb.mono (by omega)), Nat.le_trans h2 hb.size, (hb.block _ (by omega)).trans h3, (hb.block _ (by omega)).trans h4, (hb.block _ (by omega)).trans h5⟩
  case hit =>
    intro l' W1' J' hll hlt hb1 hJ' hYi hYm hJ0'
    have hsz1 := hb1.size
    refine (callsIn_wide.2 (stretches_A q bs os cs l' (fun b => b = (s1 2) ∨ b = l') (fun i X => J' i X ∧ W1'.heap.size ≤ X.heap.size) w W1' hR hq (Below.trans fB2 (hb1.mono (fB2).size)) (fun i X Y h hb => ⟨hJ' i X Y h.1 hb, Nat.le_trans h.2 hb.size⟩) ⟨hJ0', Nat.le_refl _⟩ (fun X h => (hYm X h.1).mono fun e Y hh => ⟨hh.1, ⟨hh.2.1, Nat.le_trans h.2 hh.2.2.size⟩, hh.2.2⟩) (fun b hb => by rcases hb with rfl | rfl <;> omega) (fun b hb => by rcases hb with rfl | rfl <;> omega))).mono fun e Y hh => ⟨hh.1, hh.2.1⟩
  case h0 =>
    subst hI
    exact ⟨fB2, Nat.le_refl _, b2_0, b2_1, b2_2⟩
  case hAp =>
    subst hA
    rintro B i a' X o ⟨g', b5, h1, h2, h3, h4, h5, h6, h7, h8⟩
    exact ⟨g', b5, h1, h2, h3, h4, h5, h6, h7, (World.putObj_heap_other (by omega)).trans h8⟩
  case hassign =>
    intro l' i X K hIX hsz hK
    have e : ({ tmps := ((#[9] : Array Tmp).zip #[.agg #[.int .i64 q.sf, .int .i64 100000]]).foldl (fun t (p, v) => t.setIfInBounds p v) (fr 47 g2).tmps, defers := [] } : Act) = fr 47 (upd g2 9 (.agg #[.int .i64 q.sf, .int .i64 100000])) := by
      rw [← fr_set, foldl_one]
    rw [e]
    obtain ⟨g7, hg7⟩ : ∃ g7, upd g2 9 (.agg #[.int .i64 q.sf, .int .i64 100000]) = g7 := ⟨_, rfl⟩
    rw [hg7]
    have k7_2 : g7 2 = .pointer (some ⟨(s1 0), 0, none⟩) := ku hg7 2 k2_2
    have k7_3 : g7 3 = .pointer (some ⟨(s1 1), 0, none⟩) := ku hg7 3 k2_3
    have k7_4 : g7 4 = .pointer (some ⟨(s1 2), 0, none⟩) := ku hg7 4 k2_4
    have k7_9 : g7 9 = .agg #[.int .i64 q.sf, .int .i64 100000] := kt hg7 9 (upd_same _ _ _)
    have hbX : Below w.heap.size w X := by subst hI; exact hIX.1
    have hzX : W2.heap.size ≤ X.heap.size := by subst hI; exact hIX.2.1
    refine region_doI noOut_false (by kernel_rfl) 1 [(5, 0)] [[], [0]] (rel [bx 0 #[.int .i64 0, .int .i64 0] 62]) (by kernel_rfl) (by kernel_rfl) (by kernel_rfl) (by kernel_rfl)
      ⟨bx_k, trivial⟩
      ⟨fun f s W j k l m r a => opb rfl rfl (by simp [go_sem]), trivial⟩ ?_
    intro f21 s21 W21 hB21
    have fB21 := hB21.f hbX
    have z21 := hB21.below.size
    have q21' := (below_trans (Below.refl X.heap.size X) hB21.below)
    obtain ⟨r21_0, br21_0⟩ := hB21.is 0
    have lr21_0 := hB21.lr 0 br21_0
    generalize hg21 : ov [(5, 0)] f21 g7 = g21
    have k21_2 := kt hg21 2 k7_2
    have k21_3 := kt hg21 3 k7_3
    have k21_4 := kt hg21 4 k7_4
    have k21_9 := kt hg21 9 k7_9
    have k21_5 := kt hg21 5 r21_0
    obtain ⟨W22, hW22⟩ : ∃ W', W' = W21.setRow (s21 0) #[.int .i64 q.sf, .int .i64 100000] := ⟨_, rfl⟩
    refine tail_skip (o := _) rfl ⟨rfl, rfl⟩ (run_seg hW22 (fr_ev k21_5) (fr_ev k21_9) br21_0 rfl rfl rfl rfl) ?_
    obtain ⟨fB22, nb22, ot22, z22⟩ := seg_facts hW22 fB21 br21_0 (by omega)
    have q22' := (seg_facts hW22 q21' br21_0 (by omega)).1
    clear hW22
    refine wpOps_end ?_
    refine hK _ _ q22' ?_ ?_
    · subst hI; obtain ⟨h1, h2, h3, h4, h5⟩ := hIX; have hb := q22'; exact ⟨h1.trans (hb.mono (by omega)), Nat.le_trans h2 hb.size, (hb.block _ (by omega)).trans h3, (hb.block _ (by omega)).trans h4, (hb.block _ (by omega)).trans h5⟩
    · subst hA; exact ⟨_, _, rfl, k21_2, k21_3, k21_4, k21_5, (by omega), (by omega), nb22⟩
  case hS => exact fun b hb => by subst hb; omega
  case hbody => intro _ _ i _ _ hi; omega
  case hbodym =>
    intro l' B a' X hB hIX hAX
    subst hI hA; obtain ⟨h1, h2, h3, h4, h5⟩ := hIX; obtain ⟨g7, b5, rfl, k2, k3, k4, k5, hB5, hb5, hx5⟩ := hAX
    have hx5 : X.heap[b5]? = some (.cells #[.int .i64 q.sf, .int .i64 100000] 62 (0, 0)) := hx5
    have h5 : X.heap[(s1 2)]? = some (.cells #[.int .i64 0] 3 (0, 0)) := h5
    have hl5 := lt_of_blk hx5
    have hsf := hq.sf
    refine wpIn_block ?_
    refine wpIn_seq_k fun K1 hK1 => ?_
    refine wpIn_seq_k fun K2 hK2 => ?_
    refine region_doI (by repeat (first | refine noOut_then ?_ | refine noOut_block ?_ | exact fun ⟨_, _, e⟩ => nomatch e.1)) (by kernel_rfl) 13 [(10, 0), (11, 1), (12, 2), (13, 3), (14, 4), (15, 5), (16, 6), (17, 7), (18, 8), (19, 9), (20, 10), (21, 11), (22, 12)] [[], [0], [], [2], [0, 1, 2, 3], [0, 1, 2, 3, 4], [0, 1, 2, 3, 4, 5], [0, 1, 2, 3, 4, 5], [0, 1, 2, 3, 4, 5, 7], [0, 1, 2, 3, 4, 5, 6, 7, 8], [0, 1, 2, 3, 4, 5], [0, 1, 2, 3, 4, 5, 6, 7, 8, 9, 10], [0, 1, 2, 3, 4, 5, 6, 7, 8, 9, 10, 11]] (rel [is (.pointer (some ⟨b5, 0, none⟩)),
      is (.int .i64 q.sf),
      is (.pointer (some ⟨b5, 1, none⟩)),
      is (.int .i64 100000),
      is (.bool (decide (100000 < q.sf))),
      is (.bool (decide (100000 < q.sf))),
      gd (decide (100000 < q.sf)) false (is (.agg #[.int .i64 q.ar, .int .i64 q.bo, .int .i64 q.wa, .int .i64 q.tl, .int .i64 q.se, .int .i64 q.ru, .int .i64 q.wo, .int .i64 q.pl, .int .i64 q.fr, .int .i64 q.ma, .slice (some ⟨bs, os, none⟩) (1) (cs)])),
      gd (decide (100000 < q.sf)) false (is (.pointer (some ⟨b5, 0, none⟩))),
      gd (decide (100000 < q.sf)) false (is (.int .i64 q.sf)),
      gd (decide (100000 < q.sf)) false (is (.int .i64 ((priceQ q (q.sf))))),
      gd (decide (100000 < q.sf)) false (is (.int .i64 mo)),
      gd (decide (100000 < q.sf)) false (is (.bool (decide (mo < (priceQ q (q.sf)))))),
      is (.bool ((decide (100000 < q.sf)) || (decide (mo < (priceQ q (q.sf))))))]) (by kernel_rfl) (by kernel_rfl) (by kernel_rfl) (by kernel_rfl)
      ⟨is_k, is_k, is_k, is_k, is_k, is_k, gd_k (is_k), gd_k (is_k), gd_k (is_k), gd_k (is_k), gd_k (is_k), gd_k (is_k), is_k, trivial⟩
      ⟨fun f s W j k l m r a => opv rfl rfl (by simp [go_sem, a.e 5 k5]) rfl,
    fun f s W j k l m r a => opv rfl rfl (by simp [go_sem, a.e 10 (k 0 rfl), cb hx5 j 0]) rfl,
    fun f s W j k l m r a => opv rfl rfl (by simp [go_sem, a.e 5 k5]) rfl,
    fun f s W j k l m r a => opv rfl rfl (by simp [go_sem, a.e 12 (k 2 rfl), cb hx5 j 1]) rfl,
    fun f s W j k l m r a => opv rfl rfl (by simp [go_sem, a.e 11 (k 1 rfl), a.e 13 (k 3 rfl)]) rfl,
    fun f s W j k l m r a => opv rfl rfl (by simp [go_sem, a.e 14 (k 4 rfl)]) rfl,
    fun f s W j k l m r a => gdo rfl rfl (a.says (d := 15) rfl rfl (k 5 rfl)) fun hgd0 => gv (by simp [go_sem, a.e 2 k2, cb h3 j 0, cb h3 j 1, cb h3 j 2, cb h3 j 3, cb h3 j 4, cb h3 j 5, cb h3 j 6, cb h3 j 7, cb h3 j 8, cb h3 j 9, cb h3 j 10]) rfl,
    fun f s W j k l m r a => gdo rfl rfl (a.says (d := 15) rfl rfl (k 5 rfl)) fun hgd0 => gv (by simp [go_sem, a.e 5 k5]) rfl,
    fun f s W j k l m r a => gdo rfl rfl (a.says (d := 15) rfl rfl (k 5 rfl)) fun hgd0 => gv (by simp [go_sem, a.e 17 ((k 7 rfl).1 hgd0), cb hx5 j 0]) rfl,
    fun f s W j k l m r a => gdo rfl rfl (a.says (d := 15) rfl rfl (k 5 rfl)) fun hgd0 => by have u := below_trans h1 j; exact gc (by simp [go_sem, a.e 16 ((k 6 rfl).1 hgd0), a.e 18 ((k 8 rfl).1 hgd0)]) (price_ok q bs os cs (q.sf) W (hR.below u) hq (by omega)),
    fun f s W j k l m r a => gdo rfl rfl (a.says (d := 15) rfl rfl (k 5 rfl)) fun hgd0 => gv (by simp [go_sem, a.e 3 k3, cb h4 j 0]) rfl,
    fun f s W j k l m r a => gdo rfl rfl (a.says (d := 15) rfl rfl (k 5 rfl)) fun hgd0 => gv (by simp [go_sem, a.e 19 ((k 9 rfl).1 hgd0), a.e 20 ((k 10 rfl).1 hgd0)]) rfl,
    fun f s W j k l m r a => opk (c := decide (100000 < q.sf)) rfl rfl (fun hpk => by first | (simp [go_sem, hpk, a.e 15 (k 5 rfl), a.e 21 ((k 11 rfl).1 hpk)]; done) | (have hpk' := hpk; simp at hpk'; simp [go_sem, hpk', hpk, a.e 15 (k 5 rfl), a.e 21 ((k 11 rfl).1 hpk)])) (fun hpk => by first | (simp [go_sem, hpk, a.e 15 (k 5 rfl)]; done) | (have hpk' := hpk; simp at hpk'; simp [go_sem, hpk', hpk, a.e 15 (k 5 rfl)])), trivial⟩ ?_
    intro f21 s21 W21 hB21
    have fB21 := hB21.f h1
    have z21 := hB21.below.size
    have b21_0 := hB21.b h3
    have b21_1 := hB21.b h4
    have b21_2 := hB21.b h5
    have b21_3 := hB21.b hx5
    have q23' := (KeepP.trans (KeepP.refl (fun b => (fun b => b = (s1 2)) b ∨ B ≤ b) X) (KeepP.of_below hB21.below))
    refine hK2 _ _ ?_
    generalize hg21 : ov [(10, 0), (11, 1), (12, 2), (13, 3), (14, 4), (15, 5), (16, 6), (17, 7), (18, 8), (19, 9), (20, 10), (21, 11), (22, 12)] f21 g7 = g21
    have k21_2 := kt hg21 2 k2
    have k21_3 := kt hg21 3 k3
    have k21_4 := kt hg21 4 k4
    have k21_5 := kt hg21 5 k5
    have k21_22 := kt hg21 22 (hB21.is 12)
    refine wpIn_cond_split (t := (decide (100000 < q.sf)) || (decide (mo < (priceQ q (q.sf))))) ((fr_eval rfl).trans k21_22) (fun hc3 => ?_) (fun hc3 => ?_)
    ·
      have hc3' := hc3; try simp only [ba] at hc3'
      refine wpIn_exit ?_
      refine then_exit ?_
      refine inBlock_at ?_
      exfalso; have hx_ := hit_ q.sf (by omega) (by omega); omega
    ·
      have hc3' := hc3; try simp only [ba] at hc3'
      refine wpIn_skip ?_
      refine hK1 _ _ ?_
      refine wpIn_seq_k fun K4 hK4 => ?_
      refine wpIn_block ?_
      refine wpIn_loop_n (fun m_ a_ W_ => ∃ g_ : Nat → Value, a_ = fr 47 g_ ∧ (∃ lo : Int, ∃ hi : Int, m_ = (hi - lo).toNat ∧ g_ 2 = .pointer (some ⟨(s1 0), 0, none⟩) ∧ g_ 3 = .pointer (some ⟨(s1 1), 0, none⟩) ∧ g_ 4 = .pointer (some ⟨(s1 2), 0, none⟩) ∧ g_ 5 = .pointer (some ⟨b5, 0, none⟩) ∧ g_ 22 = .bool ((decide (100000 < q.sf)) || (decide (mo < (priceQ q (q.sf))))) ∧ Below w.heap.size w W_ ∧ W21.heap.size ≤ W_.heap.size ∧ W_.heap[(s1 0)]? = some (.cells #[.int .i64 q.ar, .int .i64 q.bo, .int .i64 q.wa, .int .i64 q.tl, .int .i64 q.se, .int .i64 q.ru, .int .i64 q.wo, .int .i64 q.pl, .int .i64 q.fr, .int .i64 q.ma, .slice (some ⟨bs, os, none⟩) (1) (cs)] 86 (0, 0)) ∧ W_.heap[(s1 1)]? = some (.cells #[.int .i64 mo] 3 (0, 0)) ∧ W_.heap[(s1 2)]? = some (.cells #[.int .i64 0] 3 (0, 0)) ∧ W_.heap[b5]? = some (.cells #[.int .i64 lo, .int .i64 hi] 62 (0, 0)) ∧ KeepP (fun b => (fun b => b = (s1 2)) b ∨ B ≤ b) X W_ ∧ (q.sf ≤ lo) ∧ (hi ≤ 100000) ∧ (lo ≤ an) ∧ (an ≤ hi))) ⟨_, g21, rfl, q.sf, 100000, rfl, k21_2, k21_3, k21_4, k21_5, k21_22, fB21, Nat.le_refl _, b21_0, b21_1, b21_2, b21_3, q23', (by omega), (by omega), (by omega), (by omega)⟩ ?_
      rintro _ _ W_24 ⟨g_24, rfl, lo, hi, rfl, k_24_2, k_24_3, k_24_4, k_24_5, k_24_22, fB_24, z_24, b_24_0, b_24_1, b_24_2, m_24_0, q25', lp0, lp1, lp2, lp3⟩
      refine wpIn_seq_k fun K5 hK5 => ?_
      refine wpIn_seq_k fun K6 hK6 => ?_
      refine region_doI (by repeat (first | refine noOut_then ?_ | refine noOut_block ?_ | exact fun ⟨_, _, e⟩ => nomatch e.1)) (by kernel_rfl) 5 [(23, 0), (24, 1), (25, 2), (26, 3), (27, 4)] [[], [0], [], [2], [0, 1, 2, 3]] (rel [is (.pointer (some ⟨b5, 0, none⟩)),
      is (.int .i64 lo),
      is (.pointer (some ⟨b5, 1, none⟩)),
      is (.int .i64 hi),
      is (.bool (decide (lo < hi)))]) (by kernel_rfl) (by kernel_rfl) (by kernel_rfl) (by kernel_rfl)
        ⟨is_k, is_k, is_k, is_k, is_k, trivial⟩
        ⟨fun f s W j k l m r a => opv rfl rfl (by simp [go_sem, a.e 5 k_24_5]) rfl,
    fun f s W j k l m r a => opv rfl rfl (by simp [go_sem, a.e 23 (k 0 rfl), cb m_24_0 j 0]) rfl,
    fun f s W j k l m r a => opv rfl rfl (by simp [go_sem, a.e 5 k_24_5]) rfl,
    fun f s W j k l m r a => opv rfl rfl (by simp [go_sem, a.e 25 (k 2 rfl), cb m_24_0 j 1]) rfl,
    fun f s W j k l m r a => opv rfl rfl (by simp [go_sem, a.e 24 (k 1 rfl), a.e 26 (k 3 rfl)]) rfl, trivial⟩ ?_
      intro f22 s22 W22 hB22
      have fB22 := hB22.f fB_24
      have z22 := hB22.below.size
      have b22_0 := hB22.b b_24_0
      have b22_1 := hB22.b b_24_1
      have b22_2 := hB22.b b_24_2
      have b22_3 := hB22.b m_24_0
      have q26' := (KeepP.trans q25' (KeepP.of_below hB22.below))
      refine hK6 _ _ ?_
      generalize hg22 : ov [(23, 0), (24, 1), (25, 2), (26, 3), (27, 4)] f22 g_24 = g22
      have k22_2 := kt hg22 2 k_24_2
      have k22_3 := kt hg22 3 k_24_3
      have k22_4 := kt hg22 4 k_24_4
      have k22_5 := kt hg22 5 k_24_5
      have k22_22 := kt hg22 22 k_24_22
      have k22_27 := kt hg22 27 (hB22.is 4)
      refine wpIn_cond_split (t := decide (lo < hi)) ((fr_eval rfl).trans k22_27) (fun hc7 => ?_) (fun hc7 => ?_)
      ·
        have hc7' := hc7; try simp only [ba] at hc7'
        refine wpIn_skip ?_
        refine hK5 _ _ ?_
        refine wpIn_block ?_
        refine wpIn_seq_k fun K8 hK8 => ?_
        refine region_doI (by repeat (first | refine noOut_then ?_ | refine noOut_block ?_ | exact fun ⟨_, _, e⟩ => nomatch e.1)) (by kernel_rfl) 8 [(28, 0), (29, 1), (30, 2), (31, 3), (32, 4), (33, 5), (34, 6), (6, 7)] [[], [0], [], [2], [0, 1, 2, 3], [0, 1, 2, 3, 4], [0, 1, 2, 3, 4, 5], [0, 1, 2, 3, 4, 5, 6]] (rel [is (.pointer (some ⟨b5, 0, none⟩)),
      is (.int .i64 lo),
      is (.pointer (some ⟨b5, 1, none⟩)),
      is (.int .i64 hi),
      is (.int .i64 (lo + hi)),
      is (.int .i64 ((lo + hi) + 1)),
      is (.int .i64 (((lo + hi + 1) / 2))),
      is (.int .i64 (((lo + hi + 1) / 2)))]) (by kernel_rfl) (by kernel_rfl) (by kernel_rfl) (by kernel_rfl)
          ⟨is_k, is_k, is_k, is_k, is_k, is_k, is_k, is_k, trivial⟩
          ⟨fun f s W j k l m r a => opv rfl rfl (by simp [go_sem, a.e 5 k22_5]) rfl,
    fun f s W j k l m r a => opv rfl rfl (by simp [go_sem, a.e 28 (k 0 rfl), cb b22_3 j 0]) rfl,
    fun f s W j k l m r a => opv rfl rfl (by simp [go_sem, a.e 5 k22_5]) rfl,
    fun f s W j k l m r a => opv rfl rfl (by simp [go_sem, a.e 30 (k 2 rfl), cb b22_3 j 1]) rfl,
    fun f s W j k l m r a => opv rfl rfl (by simp [go_sem, a.e 29 (k 1 rfl), a.e 31 (k 3 rfl), IntWalk.i64_in (lo + hi) (by omega)]) rfl,
    fun f s W j k l m r a => opv rfl rfl (by simp [go_sem, a.e 32 (k 4 rfl), IntWalk.i64_in ((lo + hi) + 1) (by omega)]) rfl,
    fun f s W j k l m r a => by have qu_ : (lo + hi + 1).tdiv 2 = (lo + hi + 1) / 2 := Int.tdiv_eq_ediv_of_nonneg (by omega); have qw_ := IntWalk.i64_in ((lo + hi + 1) / 2) (by omega); exact opv rfl rfl (by simp [go_sem, a.e 33 (k 5 rfl), qu_, qw_]) rfl,
    fun f s W j k l m r a => opv rfl rfl (by simp [go_sem, a.e 34 (k 6 rfl)]) rfl, trivial⟩ ?_
        intro f23 s23 W23 hB23
        have fB23 := hB23.f fB22
        have z23 := hB23.below.size
        have b23_0 := hB23.b b22_0
        have b23_1 := hB23.b b22_1
        have b23_2 := hB23.b b22_2
        have b23_3 := hB23.b b22_3
        have q27' := (KeepP.trans q26' (KeepP.of_below hB23.below))
        refine hK8 _ _ ?_
        generalize hg23 : ov [(28, 0), (29, 1), (30, 2), (31, 3), (32, 4), (33, 5), (34, 6), (6, 7)] f23 g22 = g23
        have k23_2 := kt hg23 2 k22_2
        have k23_3 := kt hg23 3 k22_3
        have k23_4 := kt hg23 4 k22_4
        have k23_5 := kt hg23 5 k22_5
        have k23_22 := kt hg23 22 k22_22
        have k23_6 := kt hg23 6 (hB23.is 7)
        refine wpIn_seq_k fun K9 hK9 => ?_
        refine region_doI (by repeat (first | refine noOut_then ?_ | refine noOut_block ?_ | exact fun ⟨_, _, e⟩ => nomatch e.1)) (by kernel_rfl) 5 [(35, 0), (36, 1), (37, 2), (38, 3), (39, 4)] [[], [], [0, 1], [], [0, 1, 2, 3]] (rel [is (.agg #[.int .i64 q.ar, .int .i64 q.bo, .int .i64 q.wa, .int .i64 q.tl, .int .i64 q.se, .int .i64 q.ru, .int .i64 q.wo, .int .i64 q.pl, .int .i64 q.fr, .int .i64 q.ma, .slice (some ⟨bs, os, none⟩) (1) (cs)]),
      is (.int .i64 (((lo + hi + 1) / 2))),
      is (.int .i64 ((priceQ q (((lo + hi + 1) / 2))))),
      is (.int .i64 mo),
      is (.bool (decide (mo < (priceQ q (((lo + hi + 1) / 2))))))]) (by kernel_rfl) (by kernel_rfl) (by kernel_rfl) (by kernel_rfl)
          ⟨is_k, is_k, is_k, is_k, is_k, trivial⟩
          ⟨fun f s W j k l m r a => opl rfl rfl rfl (a.v 2 k23_2) (blk_below b23_0 j) Try.underlying86 rfl (by kernel_rfl) rfl,
    fun f s W j k l m r a => opv rfl rfl (by simp [go_sem, a.e 6 k23_6]) rfl,
    fun f s W j k l m r a => by have u := below_trans fB23 j; exact opc rfl rfl (by simp [go_sem, a.e 35 (k 0 rfl), a.e 36 (k 1 rfl)]) (price_ok q bs os cs (((lo + hi + 1) / 2)) W (hR.below u) hq (by omega)),
    fun f s W j k l m r a => opv rfl rfl (by simp [go_sem, a.e 3 k23_3, cb b23_1 j 0]) rfl,
    fun f s W j k l m r a => opv rfl rfl (by simp [go_sem, a.e 37 (k 2 rfl), a.e 38 (k 3 rfl)]) rfl, trivial⟩ ?_
        intro f24 s24 W24 hB24
        have fB24 := hB24.f fB23
        have z24 := hB24.below.size
        have b24_0 := hB24.b b23_0
        have b24_1 := hB24.b b23_1
        have b24_2 := hB24.b b23_2
        have b24_3 := hB24.b b23_3
        have q28' := (KeepP.trans q27' (KeepP.of_below hB24.below))
        refine hK9 _ _ ?_
        generalize hg24 : ov [(35, 0), (36, 1), (37, 2), (38, 3), (39, 4)] f24 g23 = g24
        have k24_2 := kt hg24 2 k23_2
        have k24_3 := kt hg24 3 k23_3
        have k24_4 := kt hg24 4 k23_4
        have k24_5 := kt hg24 5 k23_5
        have k24_22 := kt hg24 22 k23_22
        have k24_6 := kt hg24 6 k23_6
        have k24_39 := kt hg24 39 (hB24.is 4)
        refine wpIn_cond_split (t := decide (mo < (priceQ q (((lo + hi + 1) / 2))))) ((fr_eval rfl).trans k24_39) (fun hc10 => ?_) (fun hc10 => ?_)
        ·
          have hc10' := hc10; try simp only [ba] at hc10'
          refine region_doI (by repeat (first | refine noOut_then ?_ | refine noOut_block ?_ | exact fun ⟨_, _, e⟩ => nomatch e.1)) (by kernel_rfl) 3 [(40, 0), (41, 1), (42, 2)] [[], [0], [0, 1], [0, 1, 2]] (rel [is (.int .i64 (((lo + hi + 1) / 2))),
      is (.int .i64 (((lo + hi + 1) / 2) - 1)),
      is (.pointer (some ⟨b5, 1, none⟩))]) (by kernel_rfl) (by kernel_rfl) (by kernel_rfl) (by kernel_rfl)
            ⟨is_k, is_k, is_k, trivial⟩
            ⟨fun f s W j k l m r a => opv rfl rfl (by simp [go_sem, a.e 6 k24_6]) rfl,
    fun f s W j k l m r a => opv rfl rfl (by simp [go_sem, a.e 40 (k 0 rfl), IntWalk.i64_in (((lo + hi + 1) / 2) - 1) (by omega)]) rfl,
    fun f s W j k l m r a => opv rfl rfl (by simp [go_sem, a.e 5 k24_5]) rfl, trivial⟩ ?_
          intro f25 s25 W25 hB25
          have fB25 := hB25.f fB24
          have z25 := hB25.below.size
          have b25_0 := hB25.b b24_0
          have b25_1 := hB25.b b24_1
          have b25_2 := hB25.b b24_2
          have b25_3 := hB25.b b24_3
          have q29' := (KeepP.trans q28' (KeepP.of_below hB25.below))
          generalize hg25 : ov [(40, 0), (41, 1), (42, 2)] f25 g24 = g25
          have k25_2 := kt hg25 2 k24_2
          have k25_3 := kt hg25 3 k24_3
          have k25_4 := kt hg25 4 k24_4
          have k25_5 := kt hg25 5 k24_5
          have k25_22 := kt hg25 22 k24_22
          have k25_41 := kt hg25 41 (hB25.is 1)
          have k25_42 := kt hg25 42 (hB25.is 2)
          obtain ⟨W26, hW26⟩ : ∃ W', W' = W25.setRow b5 #[.int .i64 lo, .int .i64 (((lo + hi + 1) / 2) - 1)] := ⟨_, rfl⟩
          refine tail_skip (o := _) rfl ⟨rfl, rfl⟩ (run_seg hW26 (fr_ev k25_42) (fr_ev k25_41) b25_3 rfl rfl rfl rfl) ?_
          obtain ⟨fB26, nb26, ot26, z26⟩ := seg_facts hW26 fB25 b25_3 (by omega)
          have q30' := (hW26 ▸ keepP_setRow q29' (by first | exact Or.inl rfl | exact Or.inr (by omega)) _)
          clear hW26
          have b26_0 := ot26 _ _ (by omega) b25_0
          have b26_1 := ot26 _ _ (by omega) b25_1
          have b26_2 := ot26 _ _ (by omega) b25_2
          refine wpOps_end ?_
          refine inBlock_normal ?_
          refine then_normal ?_
          have hx_ := hit_ ((lo + hi + 1) / 2) (by omega) (by omega)
          exact ⟨_, by omega, g25, rfl, lo, ((lo + hi + 1) / 2) - 1, rfl, k25_2, k25_3, k25_4, k25_5, k25_22, fB26, (by omega), b26_0, b26_1, b26_2, nb26, q30', (by omega), (by omega), (by omega), (by omega)⟩
        ·
          have hc10' := hc10; try simp only [ba] at hc10'
          refine region_doI (by repeat (first | refine noOut_then ?_ | refine noOut_block ?_ | exact fun ⟨_, _, e⟩ => nomatch e.1)) (by kernel_rfl) 2 [(43, 0), (44, 1)] [[], [0], [0, 1]] (rel [is (.int .i64 (((lo + hi + 1) / 2))),
      is (.pointer (some ⟨b5, 0, none⟩))]) (by kernel_rfl) (by kernel_rfl) (by kernel_rfl) (by kernel_rfl)
            ⟨is_k, is_k, trivial⟩
            ⟨fun f s W j k l m r a => opv rfl rfl (by simp [go_sem, a.e 6 k24_6]) rfl,
    fun f s W j k l m r a => opv rfl rfl (by simp [go_sem, a.e 5 k24_5]) rfl, trivial⟩ ?_
          intro f27 s27 W27 hB27
          have fB27 := hB27.f fB24
          have z27 := hB27.below.size
          have b27_0 := hB27.b b24_0
          have b27_1 := hB27.b b24_1
          have b27_2 := hB27.b b24_2
          have b27_3 := hB27.b b24_3
          have q31' := (KeepP.trans q28' (KeepP.of_below hB27.below))
          generalize hg27 : ov [(43, 0), (44, 1)] f27 g24 = g27
          have k27_2 := kt hg27 2 k24_2
          have k27_3 := kt hg27 3 k24_3
          have k27_4 := kt hg27 4 k24_4
          have k27_5 := kt hg27 5 k24_5
          have k27_22 := kt hg27 22 k24_22
          have k27_43 := kt hg27 43 (hB27.is 0)
          have k27_44 := kt hg27 44 (hB27.is 1)
          obtain ⟨W28, hW28⟩ : ∃ W', W' = W27.setRow b5 #[.int .i64 (((lo + hi + 1) / 2)), .int .i64 hi] := ⟨_, rfl⟩
          refine tail_skip (o := _) rfl ⟨rfl, rfl⟩ (run_seg hW28 (fr_ev k27_44) (fr_ev k27_43) b27_3 rfl rfl rfl rfl) ?_
          obtain ⟨fB28, nb28, ot28, z28⟩ := seg_facts hW28 fB27 b27_3 (by omega)
          have q32' := (hW28 ▸ keepP_setRow q31' (by first | exact Or.inl rfl | exact Or.inr (by omega)) _)
          clear hW28
          have b28_0 := ot28 _ _ (by omega) b27_0
          have b28_1 := ot28 _ _ (by omega) b27_1
          have b28_2 := ot28 _ _ (by omega) b27_2
          refine wpOps_end ?_
          refine inBlock_normal ?_
          refine then_normal ?_
          have hx_ := hit_ ((lo + hi + 1) / 2) (by omega) (by omega)
          exact ⟨_, by omega, g27, rfl, ((lo + hi + 1) / 2), hi, rfl, k27_2, k27_3, k27_4, k27_5, k27_22, fB28, (by omega), b28_0, b28_1, b28_2, nb28, q32', (by omega), (by omega), (by omega), (by omega)⟩
      ·
        have hc7' := hc7; try simp only [ba] at hc7'
        refine wpIn_exit ?_
        refine then_exit ?_
        refine then_exit ?_
        refine inBlock_at ?_
        refine hK4 _ _ ?_
        refine wpIn_seq_k fun K11 hK11 => ?_
        refine region_doI (by repeat (first | refine noOut_then ?_ | refine noOut_block ?_ | exact fun ⟨_, _, e⟩ => nomatch e.1)) (by kernel_rfl) 2 [(45, 0), (46, 1)] [[], [0], [0, 1]] (rel [is (.pointer (some ⟨b5, 0, none⟩)),
      is (.int .i64 lo)]) (by kernel_rfl) (by kernel_rfl) (by kernel_rfl) (by kernel_rfl)
          ⟨is_k, is_k, trivial⟩
          ⟨fun f s W j k l m r a => opv rfl rfl (by simp [go_sem, a.e 5 k22_5]) rfl,
    fun f s W j k l m r a => opv rfl rfl (by simp [go_sem, a.e 45 (k 0 rfl), cb b22_3 j 0]) rfl, trivial⟩ ?_
        intro f29 s29 W29 hB29
        have fB29 := hB29.f fB22
        have z29 := hB29.below.size
        have b29_0 := hB29.b b22_0
        have b29_1 := hB29.b b22_1
        have b29_2 := hB29.b b22_2
        have b29_3 := hB29.b b22_3
        have q33' := (KeepP.trans q26' (KeepP.of_below hB29.below))
        generalize hg29 : ov [(45, 0), (46, 1)] f29 g22 = g29
        have k29_4 := kt hg29 4 k22_4
        have k29_46 := kt hg29 46 (hB29.is 1)
        obtain ⟨W30, hW30⟩ : ∃ W', W' = W29.setRow (s1 2) #[.int .i64 lo] := ⟨_, rfl⟩
        refine tail_skip (o := _) rfl ⟨rfl, rfl⟩ (run_seg hW30 (fr_ev k29_4) (fr_ev k29_46) b29_2 rfl rfl rfl rfl) ?_
        obtain ⟨fB30, nb30, ot30, z30⟩ := seg_facts hW30 fB29 b29_2 (by omega)
        have q34' := (hW30 ▸ keepP_setRow q33' (by first | exact Or.inl rfl | exact Or.inr (by omega)) _)
        clear hW30
        have b30_0 := ot30 _ _ (by omega) b29_0
        have b30_1 := ot30 _ _ (by omega) b29_1
        have b30_3 := ot30 _ _ (by omega) b29_3
        refine wpOps_end ?_
        refine hK11 _ _ ?_
        refine wpIn_ret ?_
        refine inBlock_ret ?_
        have he_ : lo = an := by omega
        have hz_ := nb30
        rw [he_] at hz_
        exact ⟨rfl, ⟨fB30, (by omega), b30_0, b30_1, hz_⟩, q34'⟩
  case hstop =>
    intro D X hD hIX hDX
    subst hI; obtain ⟨h1, h2, h3, h4, h5⟩ := hIX
    refine wpIn_ret ?_
    refine leave_markc (v := .int .i64 an) (.inr rfl) rfl rfl hDX ?_ ?_
    · have h5 : X.heap[(s1 2)]? = some (.cells #[.int .i64 an] 3 (0, 0)) := by simpa using h5
      have h9 := (World.putObj_heap_other (w := X) (o := .deferred none) (show (s1 2) ≠ D by omega)).trans h5
      simp [results, Try.results30, go_sem, frv 47 k2_4, cl h9 0]
    · exact ⟨rfl, h1.trans (below_put (by have := h1.size; omega))⟩
set_option maxRecDepth 100000 in
set_option maxHeartbeats 8000000 in
theorem most_C (q : Qu) (bs os cs : Nat) (mo an : Int) (w : World) (hR : StepR w bs os q) (hq : QuIn q) (hs1 : 1 < q.sf) (hno : mo < priceQ q q.sf) (han : 1 ≤ an ∧ an ≤ q.sf - 1) (hit_ : ∀ x, 1 ≤ x → x ≤ q.sf - 1 → (priceQ q x ≤ mo ↔ x ≤ an)) :
    Calls Try.prog 30 #[.agg #[.int .i64 q.ar, .int .i64 q.bo, .int .i64 q.wa, .int .i64 q.tl, .int .i64 q.se, .int .i64 q.ru, .int .i64 q.wo, .int .i64 q.pl, .int .i64 q.fr, .int .i64 q.ma, .slice (some ⟨bs, os, none⟩) (1) (cs)], .int .i64 mo] w (fun e w' => e = .returned (.int .i64 an) ∧ Below w.heap.size w w') := by
  refine calls_frM (n := 8) Try.func30 Try.ntmps30 rfl rfl fun g hg => ?_
  have k0 : g 0 = .agg #[.int .i64 q.ar, .int .i64 q.bo, .int .i64 q.wa, .int .i64 q.tl, .int .i64 q.se, .int .i64 q.ru, .int .i64 q.wo, .int .i64 q.pl, .int .i64 q.fr, .int .i64 q.ma, .slice (some ⟨bs, os, none⟩) (1) (cs)] := hg 0
  have k1 : g 1 = .int .i64 mo := hg 1
  clear hg
  have fB0 : Below w.heap.size w w := Below.refl _ _
  refine wp_seq_k fun K1 hK1 => ?_
  refine region_dk 3 [(2, 0), (3, 1), (4, 2)] [[], [], []] (rel [bx 0 #[.int .i64 q.ar, .int .i64 q.bo, .int .i64 q.wa, .int .i64 q.tl, .int .i64 q.se, .int .i64 q.ru, .int .i64 q.wo, .int .i64 q.pl, .int .i64 q.fr, .int .i64 q.ma, .slice (some ⟨bs, os, none⟩) (1) (cs)] 86,
      bx 1 #[.int .i64 mo] 3,
      bx 2 #[.int .i64 0] 3])
    ⟨bx_k, bx_k, bx_k, trivial⟩
    ⟨fun f s W j k l m r a => opb rfl rfl (by simp [go_sem, a.e 0 k0]),
    fun f s W j k l m r a => opb rfl rfl (by simp [go_sem, a.e 1 k1]),
    fun f s W j k l m r a => opb rfl rfl (by simp [go_sem]), trivial⟩ ?_
  intro f1 s1 W1 hB1 g1 hg1
  have fB1 := hB1.f fB0
  have z1 := hB1.below.size
  obtain ⟨r1_0, br1_0⟩ := hB1.is 0
  have lr1_0 := hB1.lr 0 br1_0
  obtain ⟨r1_1, br1_1⟩ := hB1.is 1
  have lr1_1 := hB1.lr 1 br1_1
  obtain ⟨r1_2, br1_2⟩ := hB1.is 2
  have lr1_2 := hB1.lr 2 br1_2
  have ne1_0_1 := hB1.nb 0 1
  have ne1_0_2 := hB1.nb 0 2
  have ne1_1_2 := hB1.nb 1 2
  refine hK1 _ _ ?_
  have k1_2 := kt hg1 2 r1_0
  have k1_3 := kt hg1 3 r1_1
  have k1_4 := kt hg1 4 r1_2
  refine wp_seq_k fun K2 hK2 => ?_
  refine wp_seq_k fun K3 hK3 => ?_
  refine region_dk 2 [(7, 0), (8, 1)] [[], [0]] (rel [is (.agg #[.int .i64 q.ar, .int .i64 q.bo, .int .i64 q.wa, .int .i64 q.tl, .int .i64 q.se, .int .i64 q.ru, .int .i64 q.wo, .int .i64 q.pl, .int .i64 q.fr, .int .i64 q.ma, .slice (some ⟨bs, os, none⟩) (1) (cs)]),
      is (.func (.func 53) #[.agg #[.int .i64 q.ar, .int .i64 q.bo, .int .i64 q.wa, .int .i64 q.tl, .int .i64 q.se, .int .i64 q.ru, .int .i64 q.wo, .int .i64 q.pl, .int .i64 q.fr, .int .i64 q.ma, .slice (some ⟨bs, os, none⟩) (1) (cs)]] #[])])
    ⟨is_k, is_k, trivial⟩
    ⟨fun f s W j k l m r a => opl rfl rfl rfl (a.v 2 k1_2) (blk_below br1_0 j) Try.underlying86 rfl (by kernel_rfl) rfl,
    fun f s W j k l m r a => opv rfl rfl (by simp [go_sem, a.e 7 (k 0 rfl)]) rfl, trivial⟩ ?_
  intro f2 s2 W2 hB2 g2 hg2
  have fB2 := hB2.f fB1
  have z2 := hB2.below.size
  have b2_0 := hB2.b br1_0
  have b2_1 := hB2.b br1_1
  have b2_2 := hB2.b br1_2
  refine hK3 _ _ ?_
  have k2_2 := kt hg2 2 k1_2
  have k2_3 := kt hg2 3 k1_3
  have k2_4 := kt hg2 4 k1_4
  have k2_8 := kt hg2 8 (hB2.is 1)
  refine wp_block ?_
  have hl0 := lt_of_blk b2_0
  have hl1 := lt_of_blk b2_1
  have hl2 := lt_of_blk b2_2
  obtain ⟨I, hI⟩ : ∃ I : Nat → World → Prop, (fun i W => Below w.heap.size w W ∧ W2.heap.size ≤ W.heap.size ∧ W.heap[(s1 0)]? = some (.cells #[.int .i64 q.ar, .int .i64 q.bo, .int .i64 q.wa, .int .i64 q.tl, .int .i64 q.se, .int .i64 q.ru, .int .i64 q.wo, .int .i64 q.pl, .int .i64 q.fr, .int .i64 q.ma, .slice (some ⟨bs, os, none⟩) (1) (cs)] 86 (0, 0)) ∧ W.heap[(s1 1)]? = some (.cells #[.int .i64 mo] 3 (0, 0)) ∧ W.heap[(s1 2)]? = some (.cells #[.int .i64 (if i ≤ 1 then 0 else an)] 3 (0, 0))) = I := ⟨_, rfl⟩
  obtain ⟨AA, hA⟩ : ∃ A : Nat → Nat → Act → World → Prop, (fun B i a' W => ∃ (g' : Nat → Value) (b5 : Nat), a' = fr 47 g' ∧ g' 2 = .pointer (some ⟨(s1 0), 0, none⟩) ∧ g' 3 = .pointer (some ⟨(s1 1), 0, none⟩) ∧ g' 4 = .pointer (some ⟨(s1 2), 0, none⟩) ∧ g' 5 = .pointer (some ⟨b5, 0, none⟩) ∧ B ≤ b5 ∧ W2.heap.size + 1 < b5 ∧ W.heap[b5]? = some (.cells #[.int .i64 (if i = 0 then q.sf else 1), .int .i64 (if i = 0 then 100000 else q.sf - 1)] 62 (0, 0))) = A := ⟨_, rfl⟩
  refine (wpIn_wide (n := 8)).1 (range_retB (n := 8) (gf := 53) (rcv := #[.agg #[.int .i64 q.ar, .int .i64 q.bo, .int .i64 q.wa, .int .i64 q.tl, .int .i64 q.se, .int .i64 q.ru, .int .i64 q.wo, .int .i64 q.pl, .int .i64 q.fr, .int .i64 q.ma, .slice (some ⟨bs, os, none⟩) (1) (cs)]]) (lb := #[]) ((fr_eval rfl).trans k2_8) (enters_of Try.func53 (by kernel_rfl) rfl) 1 (fun i => #[.agg #[.int .i64 (if i = 0 then q.sf else 1), .int .i64 (if i = 0 then 100000 else q.sf - 1)]]) (fun _ => rfl) (fun b => b = (s1 2)) I ?hIb ?hIp ?hit ?h0 AA ?hAp ?hassign ?hS ?hbody ?hbodym ?hstop)
  case hIb =>
    subst hI
    rintro i B X Y hB ⟨h1, h2, h3, h4, h5⟩ hb
    exact ⟨h1.trans (hb.mono (by omega)), Nat.le_trans h2 hb.size, (hb.block _ (by omega)).trans h3, (hb.block _ (by omega)).trans h4, (hb.block _ (by omega)).trans h5⟩
  case hIp =>
    subst hI
    rintro i X l' o hl ⟨h1, h2, h3, h4, h5⟩
    have hb : Below W2.heap.size X (X.putObj l' o) := below_put hl
    exact ⟨h1.trans (hb.mono (by omega)), Nat.le_trans h2 hb.size, (hb.block _ (by omega)).trans h3, (hb.block _ (by omega)).trans h4, (hb.block _ (by omega)).trans h5⟩
  case hit =>
    intro l' W1' J' hll hlt hb1 hJ' hYi hYm hJ0'
    have hsz1 := hb1.size
    refine (callsIn_wide.2 (stretches_C q bs os cs l' (fun b => b = (s1 2) ∨ b = l') (fun i X => J' i X ∧ W1'.heap.size ≤ X.heap.size) w W1' hR hq hs1 (Below.trans fB2 (hb1.mono (fB2).size)) (fun i X Y h hb => ⟨hJ' i X Y h.1 hb, Nat.le_trans h.2 hb.size⟩) ⟨hJ0', Nat.le_refl _⟩ (fun X h => (hYi 0 X (by omega) h.1).mono fun e Y hh => ⟨hh.1, ⟨hh.2.1, Nat.le_trans h.2 hh.2.2.size⟩, hh.2.2.more fun _ h => .inl h⟩) (fun X h => (hYm X h.1).mono fun e Y hh => ⟨hh.1, ⟨hh.2.1, Nat.le_trans h.2 hh.2.2.size⟩, hh.2.2⟩) (fun b hb => by rcases hb with rfl | rfl <;> omega) (fun b hb => by rcases hb with rfl | rfl <;> omega))).mono fun e Y hh => ⟨hh.1, hh.2.1⟩
  case h0 =>
    subst hI
    exact ⟨fB2, Nat.le_refl _, b2_0, b2_1, b2_2⟩
  case hAp =>
    subst hA
    rintro B i a' X o ⟨g', b5, h1, h2, h3, h4, h5, h6, h7, h8⟩
    exact ⟨g', b5, h1, h2, h3, h4, h5, h6, h7, (World.putObj_heap_other (by omega)).trans h8⟩
  case hassign =>
    intro l' i X K hIX hsz hK
    have e : ({ tmps := ((#[9] : Array Tmp).zip #[.agg #[.int .i64 (if i = 0 then q.sf else 1), .int .i64 (if i = 0 then 100000 else q.sf - 1)]]).foldl (fun t (p, v) => t.setIfInBounds p v) (fr 47 g2).tmps, defers := [] } : Act) = fr 47 (upd g2 9 (.agg #[.int .i64 (if i = 0 then q.sf else 1), .int .i64 (if i = 0 then 100000 else q.sf - 1)])) := by
      rw [← fr_set, foldl_one]
    rw [e]
    obtain ⟨g7, hg7⟩ : ∃ g7, upd g2 9 (.agg #[.int .i64 (if i = 0 then q.sf else 1), .int .i64 (if i = 0 then 100000 else q.sf - 1)]) = g7 := ⟨_, rfl⟩
    rw [hg7]
    have k7_2 : g7 2 = .pointer (some ⟨(s1 0), 0, none⟩) := ku hg7 2 k2_2
    have k7_3 : g7 3 = .pointer (some ⟨(s1 1), 0, none⟩) := ku hg7 3 k2_3
    have k7_4 : g7 4 = .pointer (some ⟨(s1 2), 0, none⟩) := ku hg7 4 k2_4
    have k7_9 : g7 9 = .agg #[.int .i64 (if i = 0 then q.sf else 1), .int .i64 (if i = 0 then 100000 else q.sf - 1)] := kt hg7 9 (upd_same _ _ _)
    have hbX : Below w.heap.size w X := by subst hI; exact hIX.1
    have hzX : W2.heap.size ≤ X.heap.size := by subst hI; exact hIX.2.1
    refine region_doI noOut_false (by kernel_rfl) 1 [(5, 0)] [[], [0]] (rel [bx 0 #[.int .i64 0, .int .i64 0] 62]) (by kernel_rfl) (by kernel_rfl) (by kernel_rfl) (by kernel_rfl)
      ⟨bx_k, trivial⟩
      ⟨fun f s W j k l m r a => opb rfl rfl (by simp [go_sem]), trivial⟩ ?_
    intro f21 s21 W21 hB21
    have fB21 := hB21.f hbX
    have z21 := hB21.below.size
    have q35' := (below_trans (Below.refl X.heap.size X) hB21.below)
    obtain ⟨r21_0, br21_0⟩ := hB21.is 0
    have lr21_0 := hB21.lr 0 br21_0
    generalize hg21 : ov [(5, 0)] f21 g7 = g21
    have k21_2 := kt hg21 2 k7_2
    have k21_3 := kt hg21 3 k7_3
    have k21_4 := kt hg21 4 k7_4
    have k21_9 := kt hg21 9 k7_9
    have k21_5 := kt hg21 5 r21_0
    obtain ⟨W22, hW22⟩ : ∃ W', W' = W21.setRow (s21 0) #[.int .i64 ((if i = 0 then q.sf else 1)), .int .i64 ((if i = 0 then 100000 else q.sf - 1))] := ⟨_, rfl⟩
    refine tail_skip (o := _) rfl ⟨rfl, rfl⟩ (run_seg hW22 (fr_ev k21_5) (fr_ev k21_9) br21_0 rfl rfl rfl rfl) ?_
    obtain ⟨fB22, nb22, ot22, z22⟩ := seg_facts hW22 fB21 br21_0 (by omega)
    have q36' := (seg_facts hW22 q35' br21_0 (by omega)).1
    clear hW22
    refine wpOps_end ?_
    refine hK _ _ q36' ?_ ?_
    · subst hI; obtain ⟨h1, h2, h3, h4, h5⟩ := hIX; have hb := q36'; exact ⟨h1.trans (hb.mono (by omega)), Nat.le_trans h2 hb.size, (hb.block _ (by omega)).trans h3, (hb.block _ (by omega)).trans h4, (hb.block _ (by omega)).trans h5⟩
    · subst hA; exact ⟨_, _, rfl, k21_2, k21_3, k21_4, k21_5, (by omega), (by omega), nb22⟩
  case hS => exact fun b hb => by subst hb; omega
  case hbody =>
    intro l' B i a' X hi hB hIX hAX
    obtain rfl : i = 0 := by omega
    subst hI hA; obtain ⟨h1, h2, h3, h4, h5⟩ := hIX; obtain ⟨g7, b5, rfl, k2, k3, k4, k5, hB5, hb5, hx5⟩ := hAX
    have hx5 : X.heap[b5]? = some (.cells #[.int .i64 q.sf, .int .i64 100000] 62 (0, 0)) := hx5
    have h5 : X.heap[(s1 2)]? = some (.cells #[.int .i64 0] 3 (0, 0)) := h5
    have hl5 := lt_of_blk hx5
    have hsf := hq.sf
    refine wpIn_block ?_
    refine wpIn_seq_k fun K1 hK1 => ?_
    refine wpIn_seq_k fun K2 hK2 => ?_
    refine region_doI (by repeat (first | refine noOut_then ?_ | refine noOut_block ?_ | exact fun ⟨_, _, e⟩ => nomatch e.1)) (by kernel_rfl) 13 [(10, 0), (11, 1), (12, 2), (13, 3), (14, 4), (15, 5), (16, 6), (17, 7), (18, 8), (19, 9), (20, 10), (21, 11), (22, 12)] [[], [0], [], [2], [0, 1, 2, 3], [0, 1, 2, 3, 4], [0, 1, 2, 3, 4, 5], [0, 1, 2, 3, 4, 5], [0, 1, 2, 3, 4, 5, 7], [0, 1, 2, 3, 4, 5, 6, 7, 8], [0, 1, 2, 3, 4, 5], [0, 1, 2, 3, 4, 5, 6, 7, 8, 9, 10], [0, 1, 2, 3, 4, 5, 6, 7, 8, 9, 10, 11]] (rel [is (.pointer (some ⟨b5, 0, none⟩)),
      is (.int .i64 q.sf),
      is (.pointer (some ⟨b5, 1, none⟩)),
      is (.int .i64 100000),
      is (.bool (decide (100000 < q.sf))),
      is (.bool (decide (100000 < q.sf))),
      gd (decide (100000 < q.sf)) false (is (.agg #[.int .i64 q.ar, .int .i64 q.bo, .int .i64 q.wa, .int .i64 q.tl, .int .i64 q.se, .int .i64 q.ru, .int .i64 q.wo, .int .i64 q.pl, .int .i64 q.fr, .int .i64 q.ma, .slice (some ⟨bs, os, none⟩) (1) (cs)])),
      gd (decide (100000 < q.sf)) false (is (.pointer (some ⟨b5, 0, none⟩))),
      gd (decide (100000 < q.sf)) false (is (.int .i64 q.sf)),
      gd (decide (100000 < q.sf)) false (is (.int .i64 ((priceQ q (q.sf))))),
      gd (decide (100000 < q.sf)) false (is (.int .i64 mo)),
      gd (decide (100000 < q.sf)) false (is (.bool (decide (mo < (priceQ q (q.sf)))))),
      is (.bool ((decide (100000 < q.sf)) || (decide (mo < (priceQ q (q.sf))))))]) (by kernel_rfl) (by kernel_rfl) (by kernel_rfl) (by kernel_rfl)
      ⟨is_k, is_k, is_k, is_k, is_k, is_k, gd_k (is_k), gd_k (is_k), gd_k (is_k), gd_k (is_k), gd_k (is_k), gd_k (is_k), is_k, trivial⟩
      ⟨fun f s W j k l m r a => opv rfl rfl (by simp [go_sem, a.e 5 k5]) rfl,
    fun f s W j k l m r a => opv rfl rfl (by simp [go_sem, a.e 10 (k 0 rfl), cb hx5 j 0]) rfl,
    fun f s W j k l m r a => opv rfl rfl (by simp [go_sem, a.e 5 k5]) rfl,
    fun f s W j k l m r a => opv rfl rfl (by simp [go_sem, a.e 12 (k 2 rfl), cb hx5 j 1]) rfl,
    fun f s W j k l m r a => opv rfl rfl (by simp [go_sem, a.e 11 (k 1 rfl), a.e 13 (k 3 rfl)]) rfl,
    fun f s W j k l m r a => opv rfl rfl (by simp [go_sem, a.e 14 (k 4 rfl)]) rfl,
    fun f s W j k l m r a => gdo rfl rfl (a.says (d := 15) rfl rfl (k 5 rfl)) fun hgd0 => gv (by simp [go_sem, a.e 2 k2, cb h3 j 0, cb h3 j 1, cb h3 j 2, cb h3 j 3, cb h3 j 4, cb h3 j 5, cb h3 j 6, cb h3 j 7, cb h3 j 8, cb h3 j 9, cb h3 j 10]) rfl,
    fun f s W j k l m r a => gdo rfl rfl (a.says (d := 15) rfl rfl (k 5 rfl)) fun hgd0 => gv (by simp [go_sem, a.e 5 k5]) rfl,
    fun f s W j k l m r a => gdo rfl rfl (a.says (d := 15) rfl rfl (k 5 rfl)) fun hgd0 => gv (by simp [go_sem, a.e 17 ((k 7 rfl).1 hgd0), cb hx5 j 0]) rfl,
    fun f s W j k l m r a => gdo rfl rfl (a.says (d := 15) rfl rfl (k 5 rfl)) fun hgd0 => by have u := below_trans h1 j; exact gc (by simp [go_sem, a.e 16 ((k 6 rfl).1 hgd0), a.e 18 ((k 8 rfl).1 hgd0)]) (price_ok q bs os cs (q.sf) W (hR.below u) hq (by omega)),
    fun f s W j k l m r a => gdo rfl rfl (a.says (d := 15) rfl rfl (k 5 rfl)) fun hgd0 => gv (by simp [go_sem, a.e 3 k3, cb h4 j 0]) rfl,
    fun f s W j k l m r a => gdo rfl rfl (a.says (d := 15) rfl rfl (k 5 rfl)) fun hgd0 => gv (by simp [go_sem, a.e 19 ((k 9 rfl).1 hgd0), a.e 20 ((k 10 rfl).1 hgd0)]) rfl,
    fun f s W j k l m r a => opk (c := decide (100000 < q.sf)) rfl rfl (fun hpk => by first | (simp [go_sem, hpk, a.e 15 (k 5 rfl), a.e 21 ((k 11 rfl).1 hpk)]; done) | (have hpk' := hpk; simp at hpk'; simp [go_sem, hpk', hpk, a.e 15 (k 5 rfl), a.e 21 ((k 11 rfl).1 hpk)])) (fun hpk => by first | (simp [go_sem, hpk, a.e 15 (k 5 rfl)]; done) | (have hpk' := hpk; simp at hpk'; simp [go_sem, hpk', hpk, a.e 15 (k 5 rfl)])), trivial⟩ ?_
    intro f21 s21 W21 hB21
    have fB21 := hB21.f h1
    have z21 := hB21.below.size
    have b21_0 := hB21.b h3
    have b21_1 := hB21.b h4
    have b21_2 := hB21.b h5
    have b21_3 := hB21.b hx5
    have q37' := (KeepP.trans (KeepP.refl (fun b => (fun b => b = (s1 2)) b ∨ B ≤ b) X) (KeepP.of_below hB21.below))
    refine hK2 _ _ ?_
    generalize hg21 : ov [(10, 0), (11, 1), (12, 2), (13, 3), (14, 4), (15, 5), (16, 6), (17, 7), (18, 8), (19, 9), (20, 10), (21, 11), (22, 12)] f21 g7 = g21
    have k21_2 := kt hg21 2 k2
    have k21_3 := kt hg21 3 k3
    have k21_4 := kt hg21 4 k4
    have k21_5 := kt hg21 5 k5
    have k21_22 := kt hg21 22 (hB21.is 12)
    refine wpIn_cond_split (t := (decide (100000 < q.sf)) || (decide (mo < (priceQ q (q.sf))))) ((fr_eval rfl).trans k21_22) (fun hc3 => ?_) (fun hc3 => ?_)
    ·
      have hc3' := hc3; try simp only [ba] at hc3'
      refine wpIn_exit ?_
      refine then_exit ?_
      refine inBlock_at ?_
      have hz_ := b21_2
      exact ⟨rfl, ⟨fB21, (by omega), b21_0, b21_1, hz_⟩, q37'⟩
    ·
      have hc3' := hc3; try simp only [ba] at hc3'
      refine wpIn_skip ?_
      refine hK1 _ _ ?_
      refine wpIn_seq_k fun K4 hK4 => ?_
      refine wpIn_block ?_
      refine wpIn_loop_n (fun m_ a_ W_ => ∃ g_ : Nat → Value, a_ = fr 47 g_ ∧ (∃ lo : Int, ∃ hi : Int, m_ = (hi - lo).toNat ∧ g_ 2 = .pointer (some ⟨(s1 0), 0, none⟩) ∧ g_ 3 = .pointer (some ⟨(s1 1), 0, none⟩) ∧ g_ 4 = .pointer (some ⟨(s1 2), 0, none⟩) ∧ g_ 5 = .pointer (some ⟨b5, 0, none⟩) ∧ g_ 22 = .bool ((decide (100000 < q.sf)) || (decide (mo < (priceQ q (q.sf))))) ∧ Below w.heap.size w W_ ∧ W21.heap.size ≤ W_.heap.size ∧ W_.heap[(s1 0)]? = some (.cells #[.int .i64 q.ar, .int .i64 q.bo, .int .i64 q.wa, .int .i64 q.tl, .int .i64 q.se, .int .i64 q.ru, .int .i64 q.wo, .int .i64 q.pl, .int .i64 q.fr, .int .i64 q.ma, .slice (some ⟨bs, os, none⟩) (1) (cs)] 86 (0, 0)) ∧ W_.heap[(s1 1)]? = some (.cells #[.int .i64 mo] 3 (0, 0)) ∧ W_.heap[(s1 2)]? = some (.cells #[.int .i64 0] 3 (0, 0)) ∧ W_.heap[b5]? = some (.cells #[.int .i64 lo, .int .i64 hi] 62 (0, 0)) ∧ KeepP (fun b => (fun b => b = (s1 2)) b ∨ B ≤ b) X W_ ∧ (q.sf ≤ lo) ∧ (hi ≤ 100000) ∧ (lo ≤ an) ∧ (an ≤ hi))) ⟨_, g21, rfl, q.sf, 100000, rfl, k21_2, k21_3, k21_4, k21_5, k21_22, fB21, Nat.le_refl _, b21_0, b21_1, b21_2, b21_3, q37', (by omega), (by omega), (by omega), (by omega)⟩ ?_
      rintro _ _ W_38 ⟨g_38, rfl, lo, hi, rfl, k_38_2, k_38_3, k_38_4, k_38_5, k_38_22, fB_38, z_38, b_38_0, b_38_1, b_38_2, m_38_0, q39', lp0, lp1, lp2, lp3⟩
      refine wpIn_seq_k fun K5 hK5 => ?_
      refine wpIn_seq_k fun K6 hK6 => ?_
      refine region_doI (by repeat (first | refine noOut_then ?_ | refine noOut_block ?_ | exact fun ⟨_, _, e⟩ => nomatch e.1)) (by kernel_rfl) 5 [(23, 0), (24, 1), (25, 2), (26, 3), (27, 4)] [[], [0], [], [2], [0, 1, 2, 3]] (rel [is (.pointer (some ⟨b5, 0, none⟩)),
      is (.int .i64 lo),
      is (.pointer (some ⟨b5, 1, none⟩)),
      is (.int .i64 hi),
      is (.bool (decide (lo < hi)))]) (by kernel_rfl) (by kernel_rfl) (by kernel_rfl) (by kernel_rfl)
        ⟨is_k, is_k, is_k, is_k, is_k, trivial⟩
        ⟨fun f s W j k l m r a => opv rfl rfl (by simp [go_sem, a.e 5 k_38_5]) rfl,
    fun f s W j k l m r a => opv rfl rfl (by simp [go_sem, a.e 23 (k 0 rfl), cb m_38_0 j 0]) rfl,
    fun f s W j k l m r a => opv rfl rfl (by simp [go_sem, a.e 5 k_38_5]) rfl,
    fun f s W j k l m r a => opv rfl rfl (by simp [go_sem, a.e 25 (k 2 rfl), cb m_38_0 j 1]) rfl,
    fun f s W j k l m r a => opv rfl rfl (by simp [go_sem, a.e 24 (k 1 rfl), a.e 26 (k 3 rfl)]) rfl, trivial⟩ ?_
      intro f22 s22 W22 hB22
      have fB22 := hB22.f fB_38
      have z22 := hB22.below.size
      have b22_0 := hB22.b b_38_0
      have b22_1 := hB22.b b_38_1
      have b22_2 := hB22.b b_38_2
      have b22_3 := hB22.b m_38_0
      have q40' := (KeepP.trans q39' (KeepP.of_below hB22.below))
      refine hK6 _ _ ?_
      generalize hg22 : ov [(23, 0), (24, 1), (25, 2), (26, 3), (27, 4)] f22 g_38 = g22
      have k22_2 := kt hg22 2 k_38_2
      have k22_3 := kt hg22 3 k_38_3
      have k22_4 := kt hg22 4 k_38_4
      have k22_5 := kt hg22 5 k_38_5
      have k22_22 := kt hg22 22 k_38_22
      have k22_27 := kt hg22 27 (hB22.is 4)
      refine wpIn_cond_split (t := decide (lo < hi)) ((fr_eval rfl).trans k22_27) (fun hc7 => ?_) (fun hc7 => ?_)
      ·
        have hc7' := hc7; try simp only [ba] at hc7'
        refine wpIn_skip ?_
        refine hK5 _ _ ?_
        refine wpIn_block ?_
        refine wpIn_seq_k fun K8 hK8 => ?_
        refine region_doI (by repeat (first | refine noOut_then ?_ | refine noOut_block ?_ | exact fun ⟨_, _, e⟩ => nomatch e.1)) (by kernel_rfl) 8 [(28, 0), (29, 1), (30, 2), (31, 3), (32, 4), (33, 5), (34, 6), (6, 7)] [[], [0], [], [2], [0, 1, 2, 3], [0, 1, 2, 3, 4], [0, 1, 2, 3, 4, 5], [0, 1, 2, 3, 4, 5, 6]] (rel [is (.pointer (some ⟨b5, 0, none⟩)),
      is (.int .i64 lo),
      is (.pointer (some ⟨b5, 1, none⟩)),
      is (.int .i64 hi),
      is (.int .i64 (lo + hi)),
      is (.int .i64 ((lo + hi) + 1)),
      is (.int .i64 (((lo + hi + 1) / 2))),
      is (.int .i64 (((lo + hi + 1) / 2)))]) (by kernel_rfl) (by kernel_rfl) (by kernel_rfl) (by kernel_rfl)
          ⟨is_k, is_k, is_k, is_k, is_k, is_k, is_k, is_k, trivial⟩
          ⟨fun f s W j k l m r a => opv rfl rfl (by simp [go_sem, a.e 5 k22_5]) rfl,
    fun f s W j k l m r a => opv rfl rfl (by simp [go_sem, a.e 28 (k 0 rfl), cb b22_3 j 0]) rfl,
    fun f s W j k l m r a => opv rfl rfl (by simp [go_sem, a.e 5 k22_5]) rfl,
    fun f s W j k l m r a => opv rfl rfl (by simp [go_sem, a.e 30 (k 2 rfl), cb b22_3 j 1]) rfl,
    fun f s W j k l m r a => opv rfl rfl (by simp [go_sem, a.e 29 (k 1 rfl), a.e 31 (k 3 rfl), IntWalk.i64_in (lo + hi) (by omega)]) rfl,
    fun f s W j k l m r a => opv rfl rfl (by simp [go_sem, a.e 32 (k 4 rfl), IntWalk.i64_in ((lo + hi) + 1) (by omega)]) rfl,
    fun f s W j k l m r a => by have qu_ : (lo + hi + 1).tdiv 2 = (lo + hi + 1) / 2 := Int.tdiv_eq_ediv_of_nonneg (by omega); have qw_ := IntWalk.i64_in ((lo + hi + 1) / 2) (by omega); exact opv rfl rfl (by simp [go_sem, a.e 33 (k 5 rfl), qu_, qw_]) rfl,
    fun f s W j k l m r a => opv rfl rfl (by simp [go_sem, a.e 34 (k 6 rfl)]) rfl, trivial⟩ ?_
        intro f23 s23 W23 hB23
        have fB23 := hB23.f fB22
        have z23 := hB23.below.size
        have b23_0 := hB23.b b22_0
        have b23_1 := hB23.b b22_1
        have b23_2 := hB23.b b22_2
        have b23_3 := hB23.b b22_3
        have q41' := (KeepP.trans q40' (KeepP.of_below hB23.below))
        refine hK8 _ _ ?_
        generalize hg23 : ov [(28, 0), (29, 1), (30, 2), (31, 3), (32, 4), (33, 5), (34, 6), (6, 7)] f23 g22 = g23
        have k23_2 := kt hg23 2 k22_2
        have k23_3 := kt hg23 3 k22_3
        have k23_4 := kt hg23 4 k22_4
        have k23_5 := kt hg23 5 k22_5
        have k23_22 := kt hg23 22 k22_22
        have k23_6 := kt hg23 6 (hB23.is 7)
        refine wpIn_seq_k fun K9 hK9 => ?_
        refine region_doI (by repeat (first | refine noOut_then ?_ | refine noOut_block ?_ | exact fun ⟨_, _, e⟩ => nomatch e.1)) (by kernel_rfl) 5 [(35, 0), (36, 1), (37, 2), (38, 3), (39, 4)] [[], [], [0, 1], [], [0, 1, 2, 3]] (rel [is (.agg #[.int .i64 q.ar, .int .i64 q.bo, .int .i64 q.wa, .int .i64 q.tl, .int .i64 q.se, .int .i64 q.ru, .int .i64 q.wo, .int .i64 q.pl, .int .i64 q.fr, .int .i64 q.ma, .slice (some ⟨bs, os, none⟩) (1) (cs)]),
      is (.int .i64 (((lo + hi + 1) / 2))),
      is (.int .i64 ((priceQ q (((lo + hi + 1) / 2))))),
      is (.int .i64 mo),
      is (.bool (decide (mo < (priceQ q (((lo + hi + 1) / 2))))))]) (by kernel_rfl) (by kernel_rfl) (by kernel_rfl) (by kernel_rfl)
          ⟨is_k, is_k, is_k, is_k, is_k, trivial⟩
          ⟨fun f s W j k l m r a => opl rfl rfl rfl (a.v 2 k23_2) (blk_below b23_0 j) Try.underlying86 rfl (by kernel_rfl) rfl,
    fun f s W j k l m r a => opv rfl rfl (by simp [go_sem, a.e 6 k23_6]) rfl,
    fun f s W j k l m r a => by have u := below_trans fB23 j; exact opc rfl rfl (by simp [go_sem, a.e 35 (k 0 rfl), a.e 36 (k 1 rfl)]) (price_ok q bs os cs (((lo + hi + 1) / 2)) W (hR.below u) hq (by omega)),
    fun f s W j k l m r a => opv rfl rfl (by simp [go_sem, a.e 3 k23_3, cb b23_1 j 0]) rfl,
    fun f s W j k l m r a => opv rfl rfl (by simp [go_sem, a.e 37 (k 2 rfl), a.e 38 (k 3 rfl)]) rfl, trivial⟩ ?_
        intro f24 s24 W24 hB24
        have fB24 := hB24.f fB23
        have z24 := hB24.below.size
        have b24_0 := hB24.b b23_0
        have b24_1 := hB24.b b23_1
        have b24_2 := hB24.b b23_2
        have b24_3 := hB24.b b23_3
        have q42' := (KeepP.trans q41' (KeepP.of_below hB24.below))
        refine hK9 _ _ ?_
        generalize hg24 : ov [(35, 0), (36, 1), (37, 2), (38, 3), (39, 4)] f24 g23 = g24
        have k24_2 := kt hg24 2 k23_2
        have k24_3 := kt hg24 3 k23_3
        have k24_4 := kt hg24 4 k23_4
        have k24_5 := kt hg24 5 k23_5
        have k24_22 := kt hg24 22 k23_22
        have k24_6 := kt hg24 6 k23_6
        have k24_39 := kt hg24 39 (hB24.is 4)
        refine wpIn_cond_split (t := decide (mo < (priceQ q (((lo + hi + 1) / 2))))) ((fr_eval rfl).trans k24_39) (fun hc10 => ?_) (fun hc10 => ?_)
        ·
          have hc10' := hc10; try simp only [ba] at hc10'
          refine region_doI (by repeat (first | refine noOut_then ?_ | refine noOut_block ?_ | exact fun ⟨_, _, e⟩ => nomatch e.1)) (by kernel_rfl) 3 [(40, 0), (41, 1), (42, 2)] [[], [0], [0, 1], [0, 1, 2]] (rel [is (.int .i64 (((lo + hi + 1) / 2))),
      is (.int .i64 (((lo + hi + 1) / 2) - 1)),
      is (.pointer (some ⟨b5, 1, none⟩))]) (by kernel_rfl) (by kernel_rfl) (by kernel_rfl) (by kernel_rfl)
            ⟨is_k, is_k, is_k, trivial⟩
            ⟨fun f s W j k l m r a => opv rfl rfl (by simp [go_sem, a.e 6 k24_6]) rfl,
    fun f s W j k l m r a => opv rfl rfl (by simp [go_sem, a.e 40 (k 0 rfl), IntWalk.i64_in (((lo + hi + 1) / 2) - 1) (by omega)]) rfl,
    fun f s W j k l m r a => opv rfl rfl (by simp [go_sem, a.e 5 k24_5]) rfl, trivial⟩ ?_
          intro f25 s25 W25 hB25
          have fB25 := hB25.f fB24
          have z25 := hB25.below.size
          have b25_0 := hB25.b b24_0
          have b25_1 := hB25.b b24_1
          have b25_2 := hB25.b b24_2
          have b25_3 := hB25.b b24_3
          have q43' := (KeepP.trans q42' (KeepP.of_below hB25.below))
          generalize hg25 : ov [(40, 0), (41, 1), (42, 2)] f25 g24 = g25
          have k25_2 := kt hg25 2 k24_2
          have k25_3 := kt hg25 3 k24_3
          have k25_4 := kt hg25 4 k24_4
          have k25_5 := kt hg25 5 k24_5
          have k25_22 := kt hg25 22 k24_22
          have k25_41 := kt hg25 41 (hB25.is 1)
          have k25_42 := kt hg25 42 (hB25.is 2)
          obtain ⟨W26, hW26⟩ : ∃ W', W' = W25.setRow b5 #[.int .i64 lo, .int .i64 (((lo + hi + 1) / 2) - 1)] := ⟨_, rfl⟩
          refine tail_skip (o := _) rfl ⟨rfl, rfl⟩ (run_seg hW26 (fr_ev k25_42) (fr_ev k25_41) b25_3 rfl rfl rfl rfl) ?_
          obtain ⟨fB26, nb26, ot26, z26⟩ := seg_facts hW26 fB25 b25_3 (by omega)
          have q44' := (hW26 ▸ keepP_setRow q43' (by first | exact Or.inl rfl | exact Or.inr (by omega)) _)
          clear hW26
          have b26_0 := ot26 _ _ (by omega) b25_0
          have b26_1 := ot26 _ _ (by omega) b25_1
          have b26_2 := ot26 _ _ (by omega) b25_2
          refine wpOps_end ?_
          refine inBlock_normal ?_
          refine then_normal ?_
          have hx_ := hit_ ((lo + hi + 1) / 2) (by omega) (by omega)
          exact ⟨_, by omega, g25, rfl, lo, ((lo + hi + 1) / 2) - 1, rfl, k25_2, k25_3, k25_4, k25_5, k25_22, fB26, (by omega), b26_0, b26_1, b26_2, nb26, q44', (by omega), (by omega), (by omega), (by omega)⟩
        ·
          have hc10' := hc10; try simp only [ba] at hc10'
          refine region_doI (by repeat (first | refine noOut_then ?_ | refine noOut_block ?_ | exact fun ⟨_, _, e⟩ => nomatch e.1)) (by kernel_rfl) 2 [(43, 0), (44, 1)] [[], [0], [0, 1]] (rel [is (.int .i64 (((lo + hi + 1) / 2))),
      is (.pointer (some ⟨b5, 0, none⟩))]) (by kernel_rfl) (by kernel_rfl) (by kernel_rfl) (by kernel_rfl)
            ⟨is_k, is_k, trivial⟩
            ⟨fun f s W j k l m r a => opv rfl rfl (by simp [go_sem, a.e 6 k24_6]) rfl,
    fun f s W j k l m r a => opv rfl rfl (by simp [go_sem, a.e 5 k24_5]) rfl, trivial⟩ ?_
          intro f27 s27 W27 hB27
          have fB27 := hB27.f fB24
          have z27 := hB27.below.size
          have b27_0 := hB27.b b24_0
          have b27_1 := hB27.b b24_1
          have b27_2 := hB27.b b24_2
          have b27_3 := hB27.b b24_3
          have q45' := (KeepP.trans q42' (KeepP.of_below hB27.below))
          generalize hg27 : ov [(43, 0), (44, 1)] f27 g24 = g27
          have k27_2 := kt hg27 2 k24_2
          have k27_3 := kt hg27 3 k24_3
          have k27_4 := kt hg27 4 k24_4
          have k27_5 := kt hg27 5 k24_5
          have k27_22 := kt hg27 22 k24_22
          have k27_43 := kt hg27 43 (hB27.is 0)
          have k27_44 := kt hg27 44 (hB27.is 1)
          obtain ⟨W28, hW28⟩ : ∃ W', W' = W27.setRow b5 #[.int .i64 (((lo + hi + 1) / 2)), .int .i64 hi] := ⟨_, rfl⟩
          refine tail_skip (o := _) rfl ⟨rfl, rfl⟩ (run_seg hW28 (fr_ev k27_44) (fr_ev k27_43) b27_3 rfl rfl rfl rfl) ?_
          obtain ⟨fB28, nb28, ot28, z28⟩ := seg_facts hW28 fB27 b27_3 (by omega)
          have q46' := (hW28 ▸ keepP_setRow q45' (by first | exact Or.inl rfl | exact Or.inr (by omega)) _)
          clear hW28
          have b28_0 := ot28 _ _ (by omega) b27_0
          have b28_1 := ot28 _ _ (by omega) b27_1
          have b28_2 := ot28 _ _ (by omega) b27_2
          refine wpOps_end ?_
          refine inBlock_normal ?_
          refine then_normal ?_
          have hx_ := hit_ ((lo + hi + 1) / 2) (by omega) (by omega)
          exact ⟨_, by omega, g27, rfl, ((lo + hi + 1) / 2), hi, rfl, k27_2, k27_3, k27_4, k27_5, k27_22, fB28, (by omega), b28_0, b28_1, b28_2, nb28, q46', (by omega), (by omega), (by omega), (by omega)⟩
      ·
        have hc7' := hc7; try simp only [ba] at hc7'
        refine wpIn_exit ?_
        refine then_exit ?_
        refine then_exit ?_
        refine inBlock_at ?_
        refine hK4 _ _ ?_
        refine wpIn_seq_k fun K11 hK11 => ?_
        refine region_doI (by repeat (first | refine noOut_then ?_ | refine noOut_block ?_ | exact fun ⟨_, _, e⟩ => nomatch e.1)) (by kernel_rfl) 2 [(45, 0), (46, 1)] [[], [0], [0, 1]] (rel [is (.pointer (some ⟨b5, 0, none⟩)),
      is (.int .i64 lo)]) (by kernel_rfl) (by kernel_rfl) (by kernel_rfl) (by kernel_rfl)
          ⟨is_k, is_k, trivial⟩
          ⟨fun f s W j k l m r a => opv rfl rfl (by simp [go_sem, a.e 5 k22_5]) rfl,
    fun f s W j k l m r a => opv rfl rfl (by simp [go_sem, a.e 45 (k 0 rfl), cb b22_3 j 0]) rfl, trivial⟩ ?_
        intro f29 s29 W29 hB29
        have fB29 := hB29.f fB22
        have z29 := hB29.below.size
        have b29_0 := hB29.b b22_0
        have b29_1 := hB29.b b22_1
        have b29_2 := hB29.b b22_2
        have b29_3 := hB29.b b22_3
        have q47' := (KeepP.trans q40' (KeepP.of_below hB29.below))
        generalize hg29 : ov [(45, 0), (46, 1)] f29 g22 = g29
        have k29_4 := kt hg29 4 k22_4
        have k29_46 := kt hg29 46 (hB29.is 1)
        obtain ⟨W30, hW30⟩ : ∃ W', W' = W29.setRow (s1 2) #[.int .i64 lo] := ⟨_, rfl⟩
        refine tail_skip (o := _) rfl ⟨rfl, rfl⟩ (run_seg hW30 (fr_ev k29_4) (fr_ev k29_46) b29_2 rfl rfl rfl rfl) ?_
        obtain ⟨fB30, nb30, ot30, z30⟩ := seg_facts hW30 fB29 b29_2 (by omega)
        have q48' := (hW30 ▸ keepP_setRow q47' (by first | exact Or.inl rfl | exact Or.inr (by omega)) _)
        clear hW30
        have b30_0 := ot30 _ _ (by omega) b29_0
        have b30_1 := ot30 _ _ (by omega) b29_1
        have b30_3 := ot30 _ _ (by omega) b29_3
        refine wpOps_end ?_
        refine hK11 _ _ ?_
        refine wpIn_ret ?_
        refine inBlock_ret ?_
        exfalso; omega
  case hbodym =>
    intro l' B a' X hB hIX hAX
    subst hI hA; obtain ⟨h1, h2, h3, h4, h5⟩ := hIX; obtain ⟨g7, b5, rfl, k2, k3, k4, k5, hB5, hb5, hx5⟩ := hAX
    have hx5 : X.heap[b5]? = some (.cells #[.int .i64 1, .int .i64 (q.sf - 1)] 62 (0, 0)) := hx5
    have h5 : X.heap[(s1 2)]? = some (.cells #[.int .i64 0] 3 (0, 0)) := h5
    have hl5 := lt_of_blk hx5
    have hsf := hq.sf
    refine wpIn_block ?_
    refine wpIn_seq_k fun K1 hK1 => ?_
    refine wpIn_seq_k fun K2 hK2 => ?_
    refine region_doI (by repeat (first | refine noOut_then ?_ | refine noOut_block ?_ | exact fun ⟨_, _, e⟩ => nomatch e.1)) (by kernel_rfl) 13 [(10, 0), (11, 1), (12, 2), (13, 3), (14, 4), (15, 5), (16, 6), (17, 7), (18, 8), (19, 9), (20, 10), (21, 11), (22, 12)] [[], [0], [], [2], [0, 1, 2, 3], [0, 1, 2, 3, 4], [0, 1, 2, 3, 4, 5], [0, 1, 2, 3, 4, 5], [0, 1, 2, 3, 4, 5, 7], [0, 1, 2, 3, 4, 5, 6, 7, 8], [0, 1, 2, 3, 4, 5], [0, 1, 2, 3, 4, 5, 6, 7, 8, 9, 10], [0, 1, 2, 3, 4, 5, 6, 7, 8, 9, 10, 11]] (rel [is (.pointer (some ⟨b5, 0, none⟩)),
      is (.int .i64 1),
      is (.pointer (some ⟨b5, 1, none⟩)),
      is (.int .i64 ((q.sf - 1))),
      is (.bool (decide ((q.sf - 1) < 1))),
      is (.bool (decide ((q.sf - 1) < 1))),
      gd (decide ((q.sf - 1) < 1)) false (is (.agg #[.int .i64 q.ar, .int .i64 q.bo, .int .i64 q.wa, .int .i64 q.tl, .int .i64 q.se, .int .i64 q.ru, .int .i64 q.wo, .int .i64 q.pl, .int .i64 q.fr, .int .i64 q.ma, .slice (some ⟨bs, os, none⟩) (1) (cs)])),
      gd (decide ((q.sf - 1) < 1)) false (is (.pointer (some ⟨b5, 0, none⟩))),
      gd (decide ((q.sf - 1) < 1)) false (is (.int .i64 1)),
      gd (decide ((q.sf - 1) < 1)) false (is (.int .i64 ((priceQ q (1))))),
      gd (decide ((q.sf - 1) < 1)) false (is (.int .i64 mo)),
      gd (decide ((q.sf - 1) < 1)) false (is (.bool (decide (mo < (priceQ q (1)))))),
      is (.bool ((decide ((q.sf - 1) < 1)) || (decide (mo < (priceQ q (1))))))]) (by kernel_rfl) (by kernel_rfl) (by kernel_rfl) (by kernel_rfl)
      ⟨is_k, is_k, is_k, is_k, is_k, is_k, gd_k (is_k), gd_k (is_k), gd_k (is_k), gd_k (is_k), gd_k (is_k), gd_k (is_k), is_k, trivial⟩
      ⟨fun f s W j k l m r a => opv rfl rfl (by simp [go_sem, a.e 5 k5]) rfl,
    fun f s W j k l m r a => opv rfl rfl (by simp [go_sem, a.e 10 (k 0 rfl), cb hx5 j 0]) rfl,
    fun f s W j k l m r a => opv rfl rfl (by simp [go_sem, a.e 5 k5]) rfl,
    fun f s W j k l m r a => opv rfl rfl (by simp [go_sem, a.e 12 (k 2 rfl), cb hx5 j 1]) rfl,
    fun f s W j k l m r a => opv rfl rfl (by simp [go_sem, a.e 11 (k 1 rfl), a.e 13 (k 3 rfl)]) rfl,
    fun f s W j k l m r a => opv rfl rfl (by simp [go_sem, a.e 14 (k 4 rfl)]) rfl,
    fun f s W j k l m r a => gdo rfl rfl (a.says (d := 15) rfl rfl (k 5 rfl)) fun hgd0 => gv (by simp [go_sem, a.e 2 k2, cb h3 j 0, cb h3 j 1, cb h3 j 2, cb h3 j 3, cb h3 j 4, cb h3 j 5, cb h3 j 6, cb h3 j 7, cb h3 j 8, cb h3 j 9, cb h3 j 10]) rfl,
    fun f s W j k l m r a => gdo rfl rfl (a.says (d := 15) rfl rfl (k 5 rfl)) fun hgd0 => gv (by simp [go_sem, a.e 5 k5]) rfl,
    fun f s W j k l m r a => gdo rfl rfl (a.says (d := 15) rfl rfl (k 5 rfl)) fun hgd0 => gv (by simp [go_sem, a.e 17 ((k 7 rfl).1 hgd0), cb hx5 j 0]) rfl,
    fun f s W j k l m r a => gdo rfl rfl (a.says (d := 15) rfl rfl (k 5 rfl)) fun hgd0 => by have u := below_trans h1 j; exact gc (by simp [go_sem, a.e 16 ((k 6 rfl).1 hgd0), a.e 18 ((k 8 rfl).1 hgd0)]) (price_ok q bs os cs (1) W (hR.below u) hq (by omega)),
    fun f s W j k l m r a => gdo rfl rfl (a.says (d := 15) rfl rfl (k 5 rfl)) fun hgd0 => gv (by simp [go_sem, a.e 3 k3, cb h4 j 0]) rfl,
    fun f s W j k l m r a => gdo rfl rfl (a.says (d := 15) rfl rfl (k 5 rfl)) fun hgd0 => gv (by simp [go_sem, a.e 19 ((k 9 rfl).1 hgd0), a.e 20 ((k 10 rfl).1 hgd0)]) rfl,
    fun f s W j k l m r a => opk (c := decide ((q.sf - 1) < 1)) rfl rfl (fun hpk => by first | (simp [go_sem, hpk, a.e 15 (k 5 rfl), a.e 21 ((k 11 rfl).1 hpk)]; done) | (have hpk' := hpk; simp at hpk'; simp [go_sem, hpk', hpk, a.e 15 (k 5 rfl), a.e 21 ((k 11 rfl).1 hpk)])) (fun hpk => by first | (simp [go_sem, hpk, a.e 15 (k 5 rfl)]; done) | (have hpk' := hpk; simp at hpk'; simp [go_sem, hpk', hpk, a.e 15 (k 5 rfl)])), trivial⟩ ?_
    intro f21 s21 W21 hB21
    have fB21 := hB21.f h1
    have z21 := hB21.below.size
    have b21_0 := hB21.b h3
    have b21_1 := hB21.b h4
    have b21_2 := hB21.b h5
    have b21_3 := hB21.b hx5
    have q49' := (KeepP.trans (KeepP.refl (fun b => (fun b => b = (s1 2)) b ∨ B ≤ b) X) (KeepP.of_below hB21.below))
    refine hK2 _ _ ?_
    generalize hg21 : ov [(10, 0), (11, 1), (12, 2), (13, 3), (14, 4), (15, 5), (16, 6), (17, 7), (18, 8), (19, 9), (20, 10), (21, 11), (22, 12)] f21 g7 = g21
    have k21_2 := kt hg21 2 k2
    have k21_3 := kt hg21 3 k3
    have k21_4 := kt hg21 4 k4
    have k21_5 := kt hg21 5 k5
    have k21_22 := kt hg21 22 (hB21.is 12)
    refine wpIn_cond_split (t := (decide ((q.sf - 1) < 1)) || (decide (mo < (priceQ q (1))))) ((fr_eval rfl).trans k21_22) (fun hc3 => ?_) (fun hc3 => ?_)
    ·
      have hc3' := hc3; try simp only [ba] at hc3'
      refine wpIn_exit ?_
      refine then_exit ?_
      refine inBlock_at ?_
      exfalso; have hx_ := hit_ 1 (by omega) (by omega); omega
    ·
      have hc3' := hc3; try simp only [ba] at hc3'
      refine wpIn_skip ?_
      refine hK1 _ _ ?_
      refine wpIn_seq_k fun K4 hK4 => ?_
      refine wpIn_block ?_
      refine wpIn_loop_n (fun m_ a_ W_ => ∃ g_ : Nat → Value, a_ = fr 47 g_ ∧ (∃ lo : Int, ∃ hi : Int, m_ = (hi - lo).toNat ∧ g_ 2 = .pointer (some ⟨(s1 0), 0, none⟩) ∧ g_ 3 = .pointer (some ⟨(s1 1), 0, none⟩) ∧ g_ 4 = .pointer (some ⟨(s1 2), 0, none⟩) ∧ g_ 5 = .pointer (some ⟨b5, 0, none⟩) ∧ g_ 22 = .bool ((decide ((q.sf - 1) < 1)) || (decide (mo < (priceQ q (1))))) ∧ Below w.heap.size w W_ ∧ W21.heap.size ≤ W_.heap.size ∧ W_.heap[(s1 0)]? = some (.cells #[.int .i64 q.ar, .int .i64 q.bo, .int .i64 q.wa, .int .i64 q.tl, .int .i64 q.se, .int .i64 q.ru, .int .i64 q.wo, .int .i64 q.pl, .int .i64 q.fr, .int .i64 q.ma, .slice (some ⟨bs, os, none⟩) (1) (cs)] 86 (0, 0)) ∧ W_.heap[(s1 1)]? = some (.cells #[.int .i64 mo] 3 (0, 0)) ∧ W_.heap[(s1 2)]? = some (.cells #[.int .i64 0] 3 (0, 0)) ∧ W_.heap[b5]? = some (.cells #[.int .i64 lo, .int .i64 hi] 62 (0, 0)) ∧ KeepP (fun b => (fun b => b = (s1 2)) b ∨ B ≤ b) X W_ ∧ (1 ≤ lo) ∧ (hi ≤ (q.sf - 1)) ∧ (lo ≤ an) ∧ (an ≤ hi))) ⟨_, g21, rfl, 1, (q.sf - 1), rfl, k21_2, k21_3, k21_4, k21_5, k21_22, fB21, Nat.le_refl _, b21_0, b21_1, b21_2, b21_3, q49', (by omega), (by omega), (by omega), (by omega)⟩ ?_
      rintro _ _ W_50 ⟨g_50, rfl, lo, hi, rfl, k_50_2, k_50_3, k_50_4, k_50_5, k_50_22, fB_50, z_50, b_50_0, b_50_1, b_50_2, m_50_0, q51', lp0, lp1, lp2, lp3⟩
      refine wpIn_seq_k fun K5 hK5 => ?_
      refine wpIn_seq_k fun K6 hK6 => ?_
      refine region_doI (by repeat (first | refine noOut_then ?_ | refine noOut_block ?_ | exact fun ⟨_, _, e⟩ => nomatch e.1)) (by kernel_rfl) 5 [(23, 0), (24, 1), (25, 2), (26, 3), (27, 4)] [[], [0], [], [2], [0, 1, 2, 3]] (rel [is (.pointer (some ⟨b5, 0, none⟩)),
      is (.int .i64 lo),
      is (.pointer (some ⟨b5, 1, none⟩)),
      is (.int .i64 hi),
      is (.bool (decide (lo < hi)))]) (by kernel_rfl) (by kernel_rfl) (by kernel_rfl) (by kernel_rfl)
        ⟨is_k, is_k, is_k, is_k, is_k, trivial⟩
        ⟨fun f s W j k l m r a => opv rfl rfl (by simp [go_sem, a.e 5 k_50_5]) rfl,
    fun f s W j k l m r a => opv rfl rfl (by simp [go_sem, a.e 23 (k 0 rfl), cb m_50_0 j 0]) rfl,
    fun f s W j k l m r a => opv rfl rfl (by simp [go_sem, a.e 5 k_50_5]) rfl,
    fun f s W j k l m r a => opv rfl rfl (by simp [go_sem, a.e 25 (k 2 rfl), cb m_50_0 j 1]) rfl,
    fun f s W j k l m r a => opv rfl rfl (by simp [go_sem, a.e 24 (k 1 rfl), a.e 26 (k 3 rfl)]) rfl, trivial⟩ ?_
      intro f22 s22 W22 hB22
      have fB22 := hB22.f fB_50
      have z22 := hB22.below.size
      have b22_0 := hB22.b b_50_0
      have b22_1 := hB22.b b_50_1
      have b22_2 := hB22.b b_50_2
      have b22_3 := hB22.b m_50_0
      have q52' := (KeepP.trans q51' (KeepP.of_below hB22.below))
      refine hK6 _ _ ?_
      generalize hg22 : ov [(23, 0), (24, 1), (25, 2), (26, 3), (27, 4)] f22 g_50 = g22
      have k22_2 := kt hg22 2 k_50_2
      have k22_3 := kt hg22 3 k_50_3
      have k22_4 := kt hg22 4 k_50_4
      have k22_5 := kt hg22 5 k_50_5
      have k22_22 := kt hg22 22 k_50_22
      have k22_27 := kt hg22 27 (hB22.is 4)
      refine wpIn_cond_split (t := decide (lo < hi)) ((fr_eval rfl).trans k22_27) (fun hc7 => ?_) (fun hc7 => ?_)
      ·
        have hc7' := hc7; try simp only [ba] at hc7'
        refine wpIn_skip ?_
        refine hK5 _ _ ?_
        refine wpIn_block ?_
        refine wpIn_seq_k fun K8 hK8 => ?_
        refine region_doI (by repeat (first | refine noOut_then ?_ | refine noOut_block ?_ | exact fun ⟨_, _, e⟩ => nomatch e.1)) (by kernel_rfl) 8 [(28, 0), (29, 1), (30, 2), (31, 3), (32, 4), (33, 5), (34, 6), (6, 7)] [[], [0], [], [2], [0, 1, 2, 3], [0, 1, 2, 3, 4], [0, 1, 2, 3, 4, 5], [0, 1, 2, 3, 4, 5, 6]] (rel [is (.pointer (some ⟨b5, 0, none⟩)),
      is (.int .i64 lo),
      is (.pointer (some ⟨b5, 1, none⟩)),
      is (.int .i64 hi),
      is (.int .i64 (lo + hi)),
      is (.int .i64 ((lo + hi) + 1)),
      is (.int .i64 (((lo + hi + 1) / 2))),
      is (.int .i64 (((lo + hi + 1) / 2)))]) (by kernel_rfl) (by kernel_rfl) (by kernel_rfl) (by kernel_rfl)
          ⟨is_k, is_k, is_k, is_k, is_k, is_k, is_k, is_k, trivial⟩
          ⟨fun f s W j k l m r a => opv rfl rfl (by simp [go_sem, a.e 5 k22_5]) rfl,
    fun f s W j k l m r a => opv rfl rfl (by simp [go_sem, a.e 28 (k 0 rfl), cb b22_3 j 0]) rfl,
    fun f s W j k l m r a => opv rfl rfl (by simp [go_sem, a.e 5 k22_5]) rfl,
    fun f s W j k l m r a => opv rfl rfl (by simp [go_sem, a.e 30 (k 2 rfl), cb b22_3 j 1]) rfl,
    fun f s W j k l m r a => opv rfl rfl (by simp [go_sem, a.e 29 (k 1 rfl), a.e 31 (k 3 rfl), IntWalk.i64_in (lo + hi) (by omega)]) rfl,
    fun f s W j k l m r a => opv rfl rfl (by simp [go_sem, a.e 32 (k 4 rfl), IntWalk.i64_in ((lo + hi) + 1) (by omega)]) rfl,
    fun f s W j k l m r a => by have qu_ : (lo + hi + 1).tdiv 2 = (lo + hi + 1) / 2 := Int.tdiv_eq_ediv_of_nonneg (by omega); have qw_ := IntWalk.i64_in ((lo + hi + 1) / 2) (by omega); exact opv rfl rfl (by simp [go_sem, a.e 33 (k 5 rfl), qu_, qw_]) rfl,
    fun f s W j k l m r a => opv rfl rfl (by simp [go_sem, a.e 34 (k 6 rfl)]) rfl, trivial⟩ ?_
        intro f23 s23 W23 hB23
        have fB23 := hB23.f fB22
        have z23 := hB23.below.size
        have b23_0 := hB23.b b22_0
        have b23_1 := hB23.b b22_1
        have b23_2 := hB23.b b22_2
        have b23_3 := hB23.b b22_3
        have q53' := (KeepP.trans q52' (KeepP.of_below hB23.below))
        refine hK8 _ _ ?_
        generalize hg23 : ov [(28, 0), (29, 1), (30, 2), (31, 3), (32, 4), (33, 5), (34, 6), (6, 7)] f23 g22 = g23
        have k23_2 := kt hg23 2 k22_2
        have k23_3 := kt hg23 3 k22_3
        have k23_4 := kt hg23 4 k22_4
        have k23_5 := kt hg23 5 k22_5
        have k23_22 := kt hg23 22 k22_22
        have k23_6 := kt hg23 6 (hB23.is 7)
        refine wpIn_seq_k fun K9 hK9 => ?_
        refine region_doI (by repeat (first | refine noOut_then ?_ | refine noOut_block ?_ | exact fun ⟨_, _, e⟩ => nomatch e.1)) (by kernel_rfl) 5 [(35, 0), (36, 1), (37, 2), (38, 3), (39, 4)] [[], [], [0, 1], [], [0, 1, 2, 3]] (rel [is (.agg #[.int .i64 q.ar, .int .i64 q.bo, .int .i64 q.wa, .int .i64 q.tl, .int .i64 q.se, .int .i64 q.ru, .int .i64 q.wo, .int .i64 q.pl, .int .i64 q.fr, .int .i64 q.ma, .slice (some ⟨bs, os, none⟩) (1) (cs)]),
      is (.int .i64 (((lo + hi + 1) / 2))),
      is (.int .i64 ((priceQ q (((lo + hi + 1) / 2))))),
      is (.int .i64 mo),
      is (.bool (decide (mo < (priceQ q (((lo + hi + 1) / 2))))))]) (by kernel_rfl) (by kernel_rfl) (by kernel_rfl) (by kernel_rfl)
          ⟨is_k, is_k, is_k, is_k, is_k, trivial⟩
          ⟨fun f s W j k l m r a => opl rfl rfl rfl (a.v 2 k23_2) (blk_below b23_0 j) Try.underlying86 rfl (by kernel_rfl) rfl,
    fun f s W j k l m r a => opv rfl rfl (by simp [go_sem, a.e 6 k23_6]) rfl,
    fun f s W j k l m r a => by have u := below_trans fB23 j; exact opc rfl rfl (by simp [go_sem, a.e 35 (k 0 rfl), a.e 36 (k 1 rfl)]) (price_ok q bs os cs (((lo + hi + 1) / 2)) W (hR.below u) hq (by omega)),
    fun f s W j k l m r a => opv rfl rfl (by simp [go_sem, a.e 3 k23_3, cb b23_1 j 0]) rfl,
    fun f s W j k l m r a => opv rfl rfl (by simp [go_sem, a.e 37 (k 2 rfl), a.e 38 (k 3 rfl)]) rfl, trivial⟩ ?_
        intro f24 s24 W24 hB24
        have fB24 := hB24.f fB23
        have z24 := hB24.below.size
        have b24_0 := hB24.b b23_0
        have b24_1 := hB24.b b23_1
        have b24_2 := hB24.b b23_2
        have b24_3 := hB24.b b23_3
        have q54' := (KeepP.trans q53' (KeepP.of_below hB24.below))
        refine hK9 _ _ ?_
        generalize hg24 : ov [(35, 0), (36, 1), (37, 2), (38, 3), (39, 4)] f24 g23 = g24
        have k24_2 := kt hg24 2 k23_2
        have k24_3 := kt hg24 3 k23_3
        have k24_4 := kt hg24 4 k23_4
        have k24_5 := kt hg24 5 k23_5
        have k24_22 := kt hg24 22 k23_22
        have k24_6 := kt hg24 6 k23_6
        have k24_39 := kt hg24 39 (hB24.is 4)
        refine wpIn_cond_split (t := decide (mo < (priceQ q (((lo + hi + 1) / 2))))) ((fr_eval rfl).trans k24_39) (fun hc10 => ?_) (fun hc10 => ?_)
        ·
          have hc10' := hc10; try simp only [ba] at hc10'
          refine region_doI (by repeat (first | refine noOut_then ?_ | refine noOut_block ?_ | exact fun ⟨_, _, e⟩ => nomatch e.1)) (by kernel_rfl) 3 [(40, 0), (41, 1), (42, 2)] [[], [0], [0, 1], [0, 1, 2]] (rel [is (.int .i64 (((lo + hi + 1) / 2))),
      is (.int .i64 (((lo + hi + 1) / 2) - 1)),
      is (.pointer (some ⟨b5, 1, none⟩))]) (by kernel_rfl) (by kernel_rfl) (by kernel_rfl) (by kernel_rfl)
            ⟨is_k, is_k, is_k, trivial⟩
            ⟨fun f s W j k l m r a => opv rfl rfl (by simp [go_sem, a.e 6 k24_6]) rfl,
    fun f s W j k l m r a => opv rfl rfl (by simp [go_sem, a.e 40 (k 0 rfl), IntWalk.i64_in (((lo + hi + 1) / 2) - 1) (by omega)]) rfl,
    fun f s W j k l m r a => opv rfl rfl (by simp [go_sem, a.e 5 k24_5]) rfl, trivial⟩ ?_
          intro f25 s25 W25 hB25
          have fB25 := hB25.f fB24
          have z25 := hB25.below.size
          have b25_0 := hB25.b b24_0
          have b25_1 := hB25.b b24_1
          have b25_2 := hB25.b b24_2
          have b25_3 := hB25.b b24_3
          have q55' := (KeepP.trans q54' (KeepP.of_below hB25.below))
          generalize hg25 : ov [(40, 0), (41, 1), (42, 2)] f25 g24 = g25
          have k25_2 := kt hg25 2 k24_2
          have k25_3 := kt hg25 3 k24_3
          have k25_4 := kt hg25 4 k24_4
          have k25_5 := kt hg25 5 k24_5
          have k25_22 := kt hg25 22 k24_22
          have k25_41 := kt hg25 41 (hB25.is 1)
          have k25_42 := kt hg25 42 (hB25.is 2)
          obtain ⟨W26, hW26⟩ : ∃ W', W' = W25.setRow b5 #[.int .i64 lo, .int .i64 (((lo + hi + 1) / 2) - 1)] := ⟨_, rfl⟩
          refine tail_skip (o := _) rfl ⟨rfl, rfl⟩ (run_seg hW26 (fr_ev k25_42) (fr_ev k25_41) b25_3 rfl rfl rfl rfl) ?_
          obtain ⟨fB26, nb26, ot26, z26⟩ := seg_facts hW26 fB25 b25_3 (by omega)
          have q56' := (hW26 ▸ keepP_setRow q55' (by first | exact Or.inl rfl | exact Or.inr (by omega)) _)
          clear hW26
          have b26_0 := ot26 _ _ (by omega) b25_0
          have b26_1 := ot26 _ _ (by omega) b25_1
          have b26_2 := ot26 _ _ (by omega) b25_2
          refine wpOps_end ?_
          refine inBlock_normal ?_
          refine then_normal ?_
          have hx_ := hit_ ((lo + hi + 1) / 2) (by omega) (by omega)
          exact ⟨_, by omega, g25, rfl, lo, ((lo + hi + 1) / 2) - 1, rfl, k25_2, k25_3, k25_4, k25_5, k25_22, fB26, (by omega), b26_0, b26_1, b26_2, nb26, q56', (by omega), (by omega), (by omega), (by omega)⟩
        ·
          have hc10' := hc10; try simp only [ba] at hc10'
          refine region_doI (by repeat (first | refine noOut_then ?_ | refine noOut_block ?_ | exact fun ⟨_, _, e⟩ => nomatch e.1)) (by kernel_rfl) 2 [(43, 0), (44, 1)] [[], [0], [0, 1]] (rel [is (.int .i64 (((lo + hi + 1) / 2))),
      is (.pointer (some ⟨b5, 0, none⟩))]) (by kernel_rfl) (by kernel_rfl) (by kernel_rfl) (by kernel_rfl)
            ⟨is_k, is_k, trivial⟩
            ⟨fun f s W j k l m r a => opv rfl rfl (by simp [go_sem, a.e 6 k24_6]) rfl,
    fun f s W j k l m r a => opv rfl rfl (by simp [go_sem, a.e 5 k24_5]) rfl, trivial⟩ ?_
          intro f27 s27 W27 hB27
          have fB27 := hB27.f fB24
          have z27 := hB27.below.size
          have b27_0 := hB27.b b24_0
          have b27_1 := hB27.b b24_1
          have b27_2 := hB27.b b24_2
          have b27_3 := hB27.b b24_3
          have q57' := (KeepP.trans q54' (KeepP.of_below hB27.below))
          generalize hg27 : ov [(43, 0), (44, 1)] f27 g24 = g27
          have k27_2 := kt hg27 2 k24_2
          have k27_3 := kt hg27 3 k24_3
          have k27_4 := kt hg27 4 k24_4
          have k27_5 := kt hg27 5 k24_5
          have k27_22 := kt hg27 22 k24_22
          have k27_43 := kt hg27 43 (hB27.is 0)
          have k27_44 := kt hg27 44 (hB27.is 1)
          obtain ⟨W28, hW28⟩ : ∃ W', W' = W27.setRow b5 #[.int .i64 (((lo + hi + 1) / 2)), .int .i64 hi] := ⟨_, rfl⟩
          refine tail_skip (o := _) rfl ⟨rfl, rfl⟩ (run_seg hW28 (fr_ev k27_44) (fr_ev k27_43) b27_3 rfl rfl rfl rfl) ?_
          obtain ⟨fB28, nb28, ot28, z28⟩ := seg_facts hW28 fB27 b27_3 (by omega)
          have q58' := (hW28 ▸ keepP_setRow q57' (by first | exact Or.inl rfl | exact Or.inr (by omega)) _)
          clear hW28
          have b28_0 := ot28 _ _ (by omega) b27_0
          have b28_1 := ot28 _ _ (by omega) b27_1
          have b28_2 := ot28 _ _ (by omega) b27_2
          refine wpOps_end ?_
          refine inBlock_normal ?_
          refine then_normal ?_
          have hx_ := hit_ ((lo + hi + 1) / 2) (by omega) (by omega)
          exact ⟨_, by omega, g27, rfl, ((lo + hi + 1) / 2), hi, rfl, k27_2, k27_3, k27_4, k27_5, k27_22, fB28, (by omega), b28_0, b28_1, b28_2, nb28, q58', (by omega), (by omega), (by omega), (by omega)⟩
      ·
        have hc7' := hc7; try simp only [ba] at hc7'
        refine wpIn_exit ?_
        refine then_exit ?_
        refine then_exit ?_
        refine inBlock_at ?_
        refine hK4 _ _ ?_
        refine wpIn_seq_k fun K11 hK11 => ?_
        refine region_doI (by repeat (first | refine noOut_then ?_ | refine noOut_block ?_ | exact fun ⟨_, _, e⟩ => nomatch e.1)) (by kernel_rfl) 2 [(45, 0), (46, 1)] [[], [0], [0, 1]] (rel [is (.pointer (some ⟨b5, 0, none⟩)),
      is (.int .i64 lo)]) (by kernel_rfl) (by kernel_rfl) (by kernel_rfl) (by kernel_rfl)
          ⟨is_k, is_k, trivial⟩
          ⟨fun f s W j k l m r a => opv rfl rfl (by simp [go_sem, a.e 5 k22_5]) rfl,
    fun f s W j k l m r a => opv rfl rfl (by simp [go_sem, a.e 45 (k 0 rfl), cb b22_3 j 0]) rfl, trivial⟩ ?_
        intro f29 s29 W29 hB29
        have fB29 := hB29.f fB22
        have z29 := hB29.below.size
        have b29_0 := hB29.b b22_0
        have b29_1 := hB29.b b22_1
        have b29_2 := hB29.b b22_2
        have b29_3 := hB29.b b22_3
        have q59' := (KeepP.trans q52' (KeepP.of_below hB29.below))
        generalize hg29 : ov [(45, 0), (46, 1)] f29 g22 = g29
        have k29_4 := kt hg29 4 k22_4
        have k29_46 := kt hg29 46 (hB29.is 1)
        obtain ⟨W30, hW30⟩ : ∃ W', W' = W29.setRow (s1 2) #[.int .i64 lo] := ⟨_, rfl⟩
        refine tail_skip (o := _) rfl ⟨rfl, rfl⟩ (run_seg hW30 (fr_ev k29_4) (fr_ev k29_46) b29_2 rfl rfl rfl rfl) ?_
        obtain ⟨fB30, nb30, ot30, z30⟩ := seg_facts hW30 fB29 b29_2 (by omega)
        have q60' := (hW30 ▸ keepP_setRow q59' (by first | exact Or.inl rfl | exact Or.inr (by omega)) _)
        clear hW30
        have b30_0 := ot30 _ _ (by omega) b29_0
        have b30_1 := ot30 _ _ (by omega) b29_1
        have b30_3 := ot30 _ _ (by omega) b29_3
        refine wpOps_end ?_
        refine hK11 _ _ ?_
        refine wpIn_ret ?_
        refine inBlock_ret ?_
        have he_ : lo = an := by omega
        have hz_ := nb30
        rw [he_] at hz_
        exact ⟨rfl, ⟨fB30, (by omega), b30_0, b30_1, hz_⟩, q60'⟩
  case hstop =>
    intro D X hD hIX hDX
    subst hI; obtain ⟨h1, h2, h3, h4, h5⟩ := hIX
    refine wpIn_ret ?_
    refine leave_markc (v := .int .i64 an) (.inr rfl) rfl rfl hDX ?_ ?_
    · have h5 : X.heap[(s1 2)]? = some (.cells #[.int .i64 an] 3 (0, 0)) := by simpa using h5
      have h9 := (World.putObj_heap_other (w := X) (o := .deferred none) (show (s1 2) ≠ D by omega)).trans h5
      simp [results, Try.results30, go_sem, frv 47 k2_4, cl h9 0]
    · exact ⟨rfl, h1.trans (below_put (by have := h1.size; omega))⟩
end Go.Proofs.Ytolnpbpeifpbjaa
