/- Part of the proof: what the claim leans on. -/
import Derived.Test.YtolnpbpeifpbjaaQAL
import Derived.Test.YtolnpbpeifpbjaaQAK
set_option linter.unusedSimpArgs false
set_option linter.unusedVariables false
namespace Go.Proofs.Ytolnpbpeifpbjaa
open Go.RowKit
theorem keepP_setRow {S : Nat → Prop} {A W : World} {b : Nat} (h : KeepP S A W) (hb : S b) (cs : Array Value) : KeepP S A (W.setRow b cs) :=
  h.trans ⟨rfl, rfl, rfl, by rw [setRow_size]; exact Nat.le_refl _, fun k o hk hx => by rw [setRow_other W b k cs (fun e => hk (e ▸ hb))]; exact hx⟩
set_option maxRecDepth 100000 in
set_option maxHeartbeats 8000000 in
theorem stretches_C (q : Qu) (bs os cs : Nat) (l : Nat) (SS : Nat → Prop) (J : Nat → World → Prop) (w v1 : World) (hR : StepR w bs os q) (hq : QuIn q) (hs1 : 1 < q.sf) (hB0 : Below w.heap.size w v1) (hJb : ∀ i W W', J i W → Below v1.heap.size W W' → J i W') (hJ0 : J 0 v1) (hY : ∀ W, J 0 W → YieldAt Fence.wide 6 Try.prog l #[.agg #[.int .i64 q.sf, .int .i64 100000]] W fun e W' => e = .returned (.bool true) ∧ J 1 W' ∧ KeepP SS W W') (hY1 : ∀ W, J 1 W → YieldAt Fence.wide 6 Try.prog l #[.agg #[.int .i64 1, .int .i64 (q.sf - 1)]] W fun e W' => e = .returned (.bool false) ∧ J 2 W' ∧ KeepP SS W W') (hS : ∀ b, SS b → w.heap.size ≤ b) (hS2 : ∀ b, SS b → b < v1.heap.size) :
    Calls Try.prog 53 #[.agg #[.int .i64 q.ar, .int .i64 q.bo, .int .i64 q.wa, .int .i64 q.tl, .int .i64 q.se, .int .i64 q.ru, .int .i64 q.wo, .int .i64 q.pl, .int .i64 q.fr, .int .i64 q.ma, .slice (some ⟨bs, os, none⟩) (1) (cs)], .func (.yield l) #[] #[]] v1 (fun e w' => (∃ v, e = .returned v) ∧ J 2 w') := by
  have hz0 := hB0.size
  refine calls_frM (n := 9) Try.func53 Try.ntmps53 rfl rfl fun g hg => ?_
  have k0 : g 0 = .agg #[.int .i64 q.ar, .int .i64 q.bo, .int .i64 q.wa, .int .i64 q.tl, .int .i64 q.se, .int .i64 q.ru, .int .i64 q.wo, .int .i64 q.pl, .int .i64 q.fr, .int .i64 q.ma, .slice (some ⟨bs, os, none⟩) (1) (cs)] := hg 0
  have k1 : g 1 = .func (.yield l) #[] #[] := hg 1
  clear hg
  have fB0 : Below w.heap.size w v1 := hB0
  refine wp_seq_k fun K1 hK1 => ?_
  refine region_dk 2 [(2, 0), (3, 1)] [[], []] (rel [bx 0 #[.int .i64 q.ar, .int .i64 q.bo, .int .i64 q.wa, .int .i64 q.tl, .int .i64 q.se, .int .i64 q.ru, .int .i64 q.wo, .int .i64 q.pl, .int .i64 q.fr, .int .i64 q.ma, .slice (some ⟨bs, os, none⟩) (1) (cs)] 86,
      bx 1 #[.func (.yield l) #[] #[]] 139])
    ⟨bx_k, bx_k, trivial⟩
    ⟨fun f s W c j k m r a => opb rfl rfl (by simp [go_sem, a.e 0 k0]),
    fun f s W c j k m r a => opb rfl rfl (by simp [go_sem, a.e 1 k1]), trivial⟩ ?_
  intro f1 s1 W1 hB1 g1 hg1
  have fB1 := hB1.f fB0
  have z1 := hB1.below.size
  have q9' := (below_trans (Below.refl v1.heap.size v1) hB1.below)
  obtain ⟨r1_0, br1_0⟩ := hB1.is 0
  have lr1_0 := hB1.lr 0 br1_0
  obtain ⟨r1_1, br1_1⟩ := hB1.is 1
  have lr1_1 := hB1.lr 1 br1_1
  have ne1_0_1 := hB1.nb 0 1
  refine hK1 _ _ ?_
  have k1_2 := kt hg1 2 r1_0
  have k1_3 := kt hg1 3 r1_1
  refine wp_seq_k fun K2 hK2 => ?_
  refine region_dk 1 [(4, 0)] [[], [0]] (rel [bx 0 #[.int .i64 0] 3])
    ⟨bx_k, trivial⟩
    ⟨fun f s W c j k m r a => opb rfl rfl (by simp [go_sem]), trivial⟩ ?_
  intro f2 s2 W2 hB2 g2 hg2
  have fB2 := hB2.f fB1
  have z2 := hB2.below.size
  have b2_0 := hB2.b br1_0
  have b2_1 := hB2.b br1_1
  have q10' := (hB2.f q9')
  obtain ⟨r2_0, br2_0⟩ := hB2.is 0
  have lr2_0 := hB2.lr 0 br2_0
  have k2_2 := kt hg2 2 k1_2
  have k2_3 := kt hg2 3 k1_3
  have k2_4 := kt hg2 4 r2_0
  obtain ⟨W3, hW3⟩ : ∃ W', W' = W2.setRow (s2 0) #[.int .i64 100000] := ⟨_, rfl⟩
  refine tail_skip (o := _) rfl ⟨rfl, rfl⟩ (run_seg hW3 (fr_ev k2_4) (rfl) br2_0 rfl rfl rfl rfl) ?_
  obtain ⟨fB3, nb3, ot3, z3⟩ := seg_facts hW3 fB2 br2_0 (by omega)
  have q11' := (seg_facts hW3 q10' br2_0 (by omega)).1
  clear hW3
  have b3_0 := ot3 _ _ (by omega) b2_0
  have b3_1 := ot3 _ _ (by omega) b2_1
  refine wpOps_end ?_
  refine hK2 _ _ ?_
  refine wp_seq_k fun K3 hK3 => ?_
  refine wp_seq_k fun K4 hK4 => ?_
  refine region_dk 4 [(7, 0), (8, 1), (9, 2), (10, 3)] [[], [0], [0, 1], [0, 1, 2]] (rel [is (.pointer (some ⟨(s1 0), 0, none⟩)),
      is (.pointer (some ⟨(s1 0), 10, none⟩)),
      is (.slice (some ⟨bs, os, none⟩) (1) (cs)),
      ab fun v W => BwV v bs os cs W])
    ⟨is_k, is_k, is_k, ab_k fun v W W' hb h => h.below hb, trivial⟩
    ⟨fun f s W c j k m r a => opv rfl rfl (by simp [go_sem, a.e 2 k2_2]) rfl,
    fun f s W c j k m r a => opv rfl rfl (by simp [go_sem, a.e 7 (j 0 rfl)]) rfl,
    fun f s W c j k m r a => opv rfl rfl (by simp [go_sem, a.e 8 (j 1 rfl), cb b3_0 c 10]) rfl,
    fun f s W c j k m r a => opDo_call rfl rfl (by simp [go_sem, a.e 9 (j 2 rfl)]) (backward_fn bs os cs W) ((fun e W' h => by obtain ⟨v, e1, h1, h2⟩ := h; exact ⟨_, e1, h2, h1⟩)), trivial⟩ ?_
  intro f4 s4 W4 hB4 g4 hg4
  have fB4 := hB4.f fB3
  have z4 := hB4.below.size
  have b4_0 := hB4.b b3_0
  have b4_1 := hB4.b b3_1
  have b4_2 := hB4.b nb3
  have q12' := (hB4.f q11')
  obtain ⟨bx13, r4_3, q14'⟩ := hB4.is 3
  refine hK4 _ _ ?_
  have k4_3 := kt hg4 3 k2_3
  have k4_4 := kt hg4 4 k2_4
  have k4_10 := kt hg4 10 r4_3
  refine wp_block ?_
  have hl3 := lt_of_blk b4_1
  have hl4 := lt_of_blk b4_2
  have hlx := lt_of_blk q14'
  have hz9 : v1.heap.size ≤ W4.heap.size := by omega
  obtain ⟨I, hI⟩ : ∃ I : Nat → World → Prop, (fun i W => (i = 0 → J 0 W) ∧ (i = 1 → J 1 W) ∧ Below w.heap.size w W ∧ W4.heap.size ≤ W.heap.size ∧ W.heap[(s1 1)]? = some (.cells #[.func (.yield l) #[] #[]] 139 (0, 0)) ∧ W.heap[(s2 0)]? = some (.cells #[.int .i64 (if i = 0 then 100000 else q.sf - 1)] 3 (0, 0))) = I := ⟨_, rfl⟩
  obtain ⟨AA, hA⟩ : ∃ A : Nat → Act → World → Prop, (fun i a' W => ∃ (g' : Nat → Value) (b6 : Nat), a' = fr 29 g' ∧ g' 3 = .pointer (some ⟨(s1 1), 0, none⟩) ∧ g' 4 = .pointer (some ⟨(s2 0), 0, none⟩) ∧ g' 6 = .pointer (some ⟨b6, 0, none⟩) ∧ W4.heap.size + 1 < b6 ∧ W.heap[b6]? = some (.cells #[.int .i64 q.sf, .int .i64 q.so] 82 (0, 0))) = A := ⟨_, rfl⟩
  refine (wpIn_wide (n := 9)).1 (range_all (n := 9) (gf := 96) (rcv := #[]) (lb := #[.pointer (some ⟨bx13, 0, none⟩)]) ((fr_eval rfl).trans k4_10) (enters_of Try.func96 (by kernel_rfl) rfl) 1 (fun _ => #[.int .i64 0, .agg #[.int .i64 q.sf, .int .i64 q.so]]) (fun _ => rfl) (fun b => SS b ∨ b = (s2 0)) I ?hIb ?hIp ?hit ?h0 AA ?hAp ?hassign ?hS ?hbody ?hdone)
  case hIb =>
    subst hI
    rintro i B X Y hB ⟨h1, h2, h3, h4, h5, h6⟩ hb
    exact ⟨fun e => hJb 0 _ _ (h1 e) (hb.mono (by omega)), fun e => hJb 1 _ _ (h2 e) (hb.mono (by omega)), h3.trans (hb.mono (by omega)), Nat.le_trans h4 hb.size, (hb.block _ (by omega)).trans h5, (hb.block _ (by omega)).trans h6⟩
  case hIp =>
    subst hI
    rintro i X l' o hl ⟨h1, h2, h3, h4, h5, h6⟩
    have hb : Below W4.heap.size X (X.putObj l' o) := below_put hl
    exact ⟨fun e => hJb 0 _ _ (h1 e) (hb.mono (by omega)), fun e => hJb 1 _ _ (h2 e) (hb.mono (by omega)), h3.trans (hb.mono (by omega)), Nat.le_trans h4 hb.size, (hb.block _ (by omega)).trans h5, (hb.block _ (by omega)).trans h6⟩
  case hit =>
    intro l' W1' J' hll hb1 hJ' hYi hJ0'
    refine (callsIn_wide.2 (backward_true q bs os cs l' bx13 (fun b => SS b ∨ b = (s2 0)) (fun i X => J' i X ∧ W1'.heap.size ≤ X.heap.size) w W1' hR (Below.trans fB4 (hb1.mono (fB4).size)) (blk_below q14' hb1) (fun i X Y h hb => ⟨hJ' i X Y h.1 (hb.mono h.2), Nat.le_trans h.2 hb.size⟩) ⟨hJ0', Nat.le_refl _⟩ (fun X h => (hYi 0 X (by omega) h.1).mono fun e Y hh => ⟨hh.1, ⟨hh.2.1, Nat.le_trans h.2 hh.2.2.size⟩, hh.2.2⟩) (fun b hb => hb.elim (hS b) (fun e => by omega)))).mono fun e Y hh => ⟨hh.1, hh.2.1⟩
  case h0 =>
    subst hI
    exact ⟨fun _ => (hJb 0 _ _ hJ0 q12'), fun e => by omega, fB4, Nat.le_refl _, b4_1, b4_2⟩
  case hAp =>
    subst hA
    rintro i a' X o ⟨g', b6, h1, h2, h3, h4, h5, h6⟩
    exact ⟨g', b6, h1, h2, h3, h4, h5, (World.putObj_heap_other (by omega)).trans h6⟩
  case hassign =>
    intro l' i X K hIX hsz hK
    have e : ({ tmps := ((#[11, 12] : Array Tmp).zip #[.int .i64 0, .agg #[.int .i64 q.sf, .int .i64 q.so]]).foldl (fun t (p, v) => t.setIfInBounds p v) (fr 29 g4).tmps, defers := [] } : Act) = fr 29 (upd (upd g4 11 (.int .i64 0)) 12 (.agg #[.int .i64 q.sf, .int .i64 q.so])) := by
      rw [← fr_set, show (fr 29 (upd g4 11 (.int .i64 0))).tmps = (fr 29 g4).tmps.setIfInBounds 11 (.int .i64 0) from congrArg Act.tmps fr_set.symm]
      rw [foldl_two]
    rw [e]
    obtain ⟨g7, hg7⟩ : ∃ g7, upd (upd g4 11 (.int .i64 0)) 12 (.agg #[.int .i64 q.sf, .int .i64 q.so]) = g7 := ⟨_, rfl⟩
    rw [hg7]
    have k7_3 : g7 3 = .pointer (some ⟨(s1 1), 0, none⟩) := (congrFun hg7.symm 3).trans ((upd_other _ _ (by decide)).trans ((upd_other _ _ (by decide)).trans k4_3))
    have k7_4 : g7 4 = .pointer (some ⟨(s2 0), 0, none⟩) := (congrFun hg7.symm 4).trans ((upd_other _ _ (by decide)).trans ((upd_other _ _ (by decide)).trans k4_4))
    have k7_12 : g7 12 = .agg #[.int .i64 q.sf, .int .i64 q.so] := kt hg7 12 (upd_same _ _ _)
    have hbX : Below w.heap.size w X := by subst hI; exact hIX.2.2.1
    have hzX : W4.heap.size ≤ X.heap.size := by subst hI; exact hIX.2.2.2.1
    refine region_doI noOut_false (by kernel_rfl) 1 [(6, 0)] [[], [0]] (rel [bx 0 #[.int .i64 0, .int .i64 0] 82]) (by kernel_rfl) (by kernel_rfl) (by kernel_rfl) (by kernel_rfl)
      ⟨bx_k, trivial⟩
      ⟨fun f s W c j k m r a => opb rfl rfl (by simp [go_sem]), trivial⟩ ?_
    intro f21 s21 W21 hB21
    have fB21 := hB21.f hbX
    have z21 := hB21.below.size
    have q15' := (below_trans (Below.refl X.heap.size X) hB21.below)
    obtain ⟨r21_0, br21_0⟩ := hB21.is 0
    have lr21_0 := hB21.lr 0 br21_0
    generalize hg21 : ov [(6, 0)] f21 g7 = g21
    have k21_3 := kt hg21 3 k7_3
    have k21_4 := kt hg21 4 k7_4
    have k21_12 := kt hg21 12 k7_12
    have k21_6 := kt hg21 6 r21_0
    obtain ⟨W22, hW22⟩ : ∃ W', W' = W21.setRow (s21 0) #[.int .i64 q.sf, .int .i64 q.so] := ⟨_, rfl⟩
    refine tail_skip (o := _) rfl ⟨rfl, rfl⟩ (run_seg hW22 (fr_ev k21_6) (fr_ev k21_12) br21_0 rfl rfl rfl rfl) ?_
    obtain ⟨fB22, nb22, ot22, z22⟩ := seg_facts hW22 fB21 br21_0 (by omega)
    have q16' := (seg_facts hW22 q15' br21_0 (by omega)).1
    clear hW22
    refine wpOps_end ?_
    refine hK _ _ q16' ?_ ?_
    · subst hI; obtain ⟨h1, h2, h3, h4, h5, h6⟩ := hIX; have hb := q16'; exact ⟨fun e => hJb 0 _ _ (h1 e) (hb.mono (by omega)), fun e => hJb 1 _ _ (h2 e) (hb.mono (by omega)), h3.trans (hb.mono (by omega)), Nat.le_trans h4 hb.size, (hb.block _ (by omega)).trans h5, (hb.block _ (by omega)).trans h6⟩
    · subst hA; exact ⟨_, _, rfl, k21_3, k21_4, k21_6, (by omega), nb22⟩
  case hS => exact fun b hb => hb.elim (fun h => by have := hS2 b h; omega) (fun e => by omega)
  case hbody =>
    intro l' i a' X hi hIX hAX
    obtain rfl : i = 0 := by omega
    subst hI hA; obtain ⟨h1, h2, h3, h4, h5, h6⟩ := hIX; obtain ⟨g7, b6, rfl, k3, k4, k6, hb6, hx6⟩ := hAX
    have h6 : X.heap[(s2 0)]? = some (.cells #[.int .i64 100000] 3 (0, 0)) := h6
    refine wpIn_block (wpIn_seq (wpIn_seq (wpIn_region ?_)))
    show wpOpsIn (Fence.wide.inRound l') _ _ _ _ [0, 1, 2, 3, 4, 5, 6] _ _
    refine inQ_value (o := _) rfl rfl (fun _ h => nomatch h) rfl (v := .func (.yield l) #[] #[]) (by simp [go_sem, frv 29 k3, cl h5 0]) ?_
    generalize hg41 : upd g7 13 (.func (.yield l) #[] #[]) = g41
    have k41_3 := ku hg41 3 k3
    have k41_4 := ku hg41 4 k4
    have k41_6 := ku hg41 6 k6
    have k41_13 := kt hg41 13 (upd_same _ _ _)
    refine inQ_value (o := _) rfl rfl (fun _ h => nomatch h) rfl (v := .pointer (some ⟨b6, 0, none⟩)) (by simp [go_sem, frv 29 k41_6]) ?_
    generalize hg42 : upd g41 14 (.pointer (some ⟨b6, 0, none⟩)) = g42
    have k42_3 := ku hg42 3 k41_3
    have k42_4 := ku hg42 4 k41_4
    have k42_6 := ku hg42 6 k41_6
    have k42_13 := ku hg42 13 k41_13
    have k42_14 := kt hg42 14 (upd_same _ _ _)
    refine inQ_value (o := _) rfl rfl (fun _ h => nomatch h) rfl (v := .int .i64 q.sf) (by simp [go_sem, frv 29 k42_14, cl hx6 0]) ?_
    generalize hg43 : upd g42 15 (.int .i64 q.sf) = g43
    have k43_3 := ku hg43 3 k42_3
    have k43_4 := ku hg43 4 k42_4
    have k43_6 := ku hg43 6 k42_6
    have k43_13 := ku hg43 13 k42_13
    have k43_15 := kt hg43 15 (upd_same _ _ _)
    refine inQ_value (o := _) rfl rfl (fun _ h => nomatch h) rfl (v := .int .i64 100000) (by simp [go_sem, frv 29 k43_4, cl h6 0]) ?_
    generalize hg44 : upd g43 16 (.int .i64 100000) = g44
    have k44_3 := ku hg44 3 k43_3
    have k44_4 := ku hg44 4 k43_4
    have k44_6 := ku hg44 6 k43_6
    have k44_13 := ku hg44 13 k43_13
    have k44_15 := ku hg44 15 k43_15
    have k44_16 := kt hg44 16 (upd_same _ _ _)
    refine inQ_value (o := _) rfl rfl (fun _ h => nomatch h) rfl (v := .agg #[.int .i64 q.sf, .int .i64 100000]) (by simp [go_sem, frv 29 k44_15, frv 29 k44_16]) ?_
    generalize hg45 : upd g44 17 (.agg #[.int .i64 q.sf, .int .i64 100000]) = g45
    have k45_3 := ku hg45 3 k44_3
    have k45_4 := ku hg45 4 k44_4
    have k45_6 := ku hg45 6 k44_6
    have k45_13 := ku hg45 13 k44_13
    have k45_17 := kt hg45 17 (upd_same _ _ _)
    refine inQ_round (o := _) (d := 18) rfl rfl (fun _ h => nomatch h) rfl (l := l) (args := #[.agg #[.int .i64 q.sf, .int .i64 100000]]) (by simp [go_sem, frv 29 k45_13, frv 29 k45_17]) (hY X (h1 rfl)) ?_ (fun _ h => nomatch h.1) (fun _ _ h => nomatch h.1)
    rintro v_ Y ⟨rv, jj, kx⟩
    obtain rfl := Ending.returned.inj rv
    generalize hg46 : upd g45 18 (.bool true) = g46
    have k46_3 := ku hg46 3 k45_3
    have k46_4 := ku hg46 4 k45_4
    have k46_6 := ku hg46 6 k45_6
    have k46_18 := kt hg46 18 (upd_same _ _ _)
    refine inQ_value (o := _) rfl rfl (fun _ h => nomatch h) rfl (v := .bool false) (by simp [go_sem, frv 29 k46_18]) ?_
    generalize hg47 : upd g46 19 (.bool false) = g47
    have k47_3 := ku hg47 3 k46_3
    have k47_4 := ku hg47 4 k46_4
    have k47_6 := ku hg47 6 k46_6
    have k47_19 := kt hg47 19 (upd_same _ _ _)
    have kz := kx.size
    have hsf := hq.sf
    have hBY := Below.trans h3 (kx.below hS h3.size)
    have h5' := kx.block _ _ (fun h => by have := hS2 _ h; omega) h5
    have h6' := kx.block _ _ (fun h => by have := hS2 _ h; omega) h6
    have hx6' := kx.block _ _ (fun h => by have := hS2 _ h; omega) hx6
    have ky : KeepP (fun b => SS b ∨ b = (s2 0)) X Y := kx.more fun _ h => .inl h
    have hl6 := lt_of_blk hx6'
    refine wpIn_cond_false ((fr_eval rfl).trans k47_19) (wpIn_skip ?_)
    change Code.wpIn _ _ _ _ _ _ _
    refine region_doI (noOut_block fun ⟨_, _, e⟩ => nomatch e.1) (by kernel_rfl) 3 [(20, 0), (21, 1), (22, 2)] [[], [0], [0, 1], [0, 1, 2]] (rel [is (.pointer (some ⟨b6, 0, none⟩)),
      is (.int .i64 q.sf),
      is (.int .i64 (q.sf - 1))]) (by kernel_rfl) (by kernel_rfl) (by kernel_rfl) (by kernel_rfl)
      ⟨is_k, is_k, is_k, trivial⟩
      ⟨fun f s W c j k m r a => opv rfl rfl (by simp [go_sem, a.e 6 k47_6]) rfl,
    fun f s W c j k m r a => opv rfl rfl (by simp [go_sem, a.e 20 (j 0 rfl), cb hx6' c 0]) rfl,
    fun f s W c j k m r a => opv rfl rfl (by simp [go_sem, a.e 21 (j 1 rfl), IntWalk.i64_in (q.sf - 1) (by omega)]) rfl, trivial⟩ ?_
    intro f48 s48 W48 hB48
    have fB48 := hB48.f hBY
    have z48 := hB48.below.size
    have b48_0 := hB48.b h5'
    have b48_1 := hB48.b h6'
    have b48_2 := hB48.b hx6'
    have q17' := (hJb 1 _ _ jj ((hB48.below).mono (by omega)))
    have q18' := (KeepP.trans ky (KeepP.of_below hB48.below))
    generalize hg48 : ov [(20, 0), (21, 1), (22, 2)] f48 g47 = g48
    have k48_3 := kt hg48 3 k47_3
    have k48_4 := kt hg48 4 k47_4
    have k48_6 := kt hg48 6 k47_6
    have k48_22 := kt hg48 22 (hB48.is 2)
    obtain ⟨W49, hW49⟩ : ∃ W', W' = W48.setRow (s2 0) #[.int .i64 (q.sf - 1)] := ⟨_, rfl⟩
    refine tail_skip (o := _) rfl ⟨rfl, rfl⟩ (run_seg hW49 (fr_ev k48_4) (fr_ev k48_22) b48_1 rfl rfl rfl rfl) ?_
    obtain ⟨fB49, nb49, ot49, z49⟩ := seg_facts hW49 fB48 b48_1 (by omega)
    have q19' := (hJb 1 _ _ q17' (hW49 ▸ below_setRow (Below.refl _ _) (by omega) _))
    have q20' := (hW49 ▸ keepP_setRow q18' (.inr rfl) _)
    clear hW49
    have b49_0 := ot49 _ _ (by omega) b48_0
    have b49_2 := ot49 _ _ (by omega) b48_2
    refine wpOps_end ?_
    exact ⟨rfl, ⟨fun e => by omega, fun _ => q19', fB49, (by omega), b49_0, nb49⟩, q20'⟩
  case hdone =>
    intro D X hD hIX hDX
    subst hI; obtain ⟨h1, h2, h3, h4, h5, h6⟩ := hIX
    have h6 : X.heap[(s2 0)]? = some (.cells #[.int .i64 (q.sf - 1)] 3 (0, 0)) := h6
    refine hK3 _ _ ?_
    change Code.wp _ _ _ (frD [{ target := .collected D, args := #[] }] 29 g4) X
    refine wp_seq_k fun K9 hK9 => ?_
    refine (wpIn_wide (n := 7)).1 (wpIn_region ?_)
    show wpOpsIn _ _ _ _ _ [0, 1] _ _
    have hgt : (0 : Int) < q.sf - 1 := by omega
    refine inD_value (o := _) rfl rfl rfl (v := .int .i64 ((q.sf - 1))) (by simp [go_sem, (frD_evv (N := 29) k4_4), cl h6 0]) ?_
    generalize hg61 : upd g4 23 (.int .i64 ((q.sf - 1))) = g61
    have k61_3 := ku hg61 3 k4_3
    have k61_4 := ku hg61 4 k4_4
    have k61_23 := kt hg61 23 (upd_same _ _ _)
    refine inD_value (o := _) rfl rfl rfl (v := .bool true) (by simp [go_sem, (frD_evv (N := 29) k61_23), hgt, hs1]) ?_
    generalize hg62 : upd g61 24 (.bool true) = g62
    have k62_3 := ku hg62 3 k61_3
    have k62_4 := ku hg62 4 k61_4
    have k62_24 := kt hg62 24 (upd_same _ _ _)
    refine hK9 _ _ ?_
    refine wp_cond_true (show (frD _ _ _).eval _ = _ from (fr_eval rfl).trans k62_24) ?_
    refine (wpIn_wide (n := 7)).1 (wpIn_region ?_)
    show wpOpsIn _ _ _ _ _ [0, 1, 2, 3] _ _
    refine inD_value (o := _) rfl rfl rfl (v := .func (.yield l) #[] #[]) (by simp [go_sem, (frD_evv (N := 29) k62_3), cl h5 0]) ?_
    generalize hg63 : upd g62 25 (.func (.yield l) #[] #[]) = g63
    have k63_3 := ku hg63 3 k62_3
    have k63_4 := ku hg63 4 k62_4
    have k63_25 := kt hg63 25 (upd_same _ _ _)
    refine inD_value (o := _) rfl rfl rfl (v := .int .i64 ((q.sf - 1))) (by simp [go_sem, (frD_evv (N := 29) k63_4), cl h6 0]) ?_
    generalize hg64 : upd g63 26 (.int .i64 ((q.sf - 1))) = g64
    have k64_3 := ku hg64 3 k63_3
    have k64_4 := ku hg64 4 k63_4
    have k64_25 := ku hg64 25 k63_25
    have k64_26 := kt hg64 26 (upd_same _ _ _)
    refine inD_value (o := _) rfl rfl rfl (v := .agg #[.int .i64 1, .int .i64 ((q.sf - 1))]) (by simp [go_sem, (frD_evv (N := 29) k64_26)]) ?_
    generalize hg65 : upd g64 27 (.agg #[.int .i64 1, .int .i64 ((q.sf - 1))]) = g65
    have k65_3 := ku hg65 3 k64_3
    have k65_4 := ku hg65 4 k64_4
    have k65_25 := ku hg65 25 k64_25
    have k65_27 := kt hg65 27 (upd_same _ _ _)
    refine inD_round (o := _) (d := 28) rfl rfl rfl (l := l) (args := #[.agg #[.int .i64 1, .int .i64 (q.sf - 1)]]) (by simp [go_sem, (frD_evv (N := 29) k65_25), (frD_evv (N := 29) k65_27)]) (hY1 X (h2 rfl)) ?_ (fun _ h => nomatch h.1) (fun _ _ h => nomatch h.1)
    rintro v_ Y ⟨rv, jj, kx⟩
    have kz := kx.size
    have hDY := kx.block _ _ (fun h => by have := hS2 _ h; omega) hDX
    refine leave_mark (v := .tuple #[]) (.inl rfl) rfl rfl hDY (fun W' => by simp [results, Try.results53, go_sem]) ?_
    exact ⟨⟨_, rfl⟩, hJb 2 _ _ jj (below_put (by omega))⟩
end Go.Proofs.Ytolnpbpeifpbjaa
namespace Go.Proofs.Ytolnpbpeifpbjaa
open Go.RowKit Go.Shelf
set_option maxHeartbeats 4000000 in
theorem range_retB {n : Nat} {P : Program} {g : Operand} {ps : Array Tmp} {assign body : Code} {Q : Exit → Act → World → Prop} {a : Act} {w : World} {gf : Nat} {rcv lb : Array Value}
    (hg : a.eval g = .func (.func gf) rcv lb) (eg : ∀ args w, (callFunc gf args).run P w = .ok (.enter gf args) w) (m : Nat) (encs : Nat → Array Value) (hps : ∀ i, (encs i).size = ps.size) (S : Nat → Prop)
    (I : Nat → World → Prop) (hIb : ∀ i B W W', w.heap.size ≤ B → I i W → Below B W W' → I i W') (hIp : ∀ i W l o, w.heap.size ≤ l → I i W → I i (W.putObj l o))
    (hit : ∀ (l : Nat) (W1 : World) (J : Nat → World → Prop), w.heap.size ≤ l → l < W1.heap.size → Below w.heap.size w W1 → (∀ i W W', J i W → Below W1.heap.size W W' → J i W') →
      (∀ i W, i < m → J i W → YieldAt Fence.wide (n - 1 - 1) P l (encs i) W fun e W' => e = .returned (.bool true) ∧ J (i + 1) W' ∧ KeepP S W W') → (∀ W, J m W → YieldAt Fence.wide (n - 1 - 1) P l (encs m) W fun e W' => e = .returned (.bool false) ∧ J (m + 1) W' ∧ KeepP (fun b => S b ∨ b = l) W W') → J 0 W1 →
      CallsIn Fence.wide (n - 1) P gf (rcv ++ #[.func (.yield l) #[] #[]] ++ lb) W1 fun e W' => (∃ v, e = .returned v) ∧ J (m + 1) W')
    (h0 : I 0 w) (A : Nat → Nat → Act → World → Prop) (hAp : ∀ B i a' W o, A B i a' W → A B i a' (W.putObj (w.heap.size + 1) o))
    (hassign : ∀ (l i : Nat) (W : World) (K : Act → World → Prop), I i W → w.heap.size + 1 < W.heap.size → (∀ a' W', Below W.heap.size W W' → I i W' → A W.heap.size i a' W' → K a' W') → assign.wpIn (Fence.wide.inRound l) (n - 1 - 1) P (Exit.then K fun _ _ _ => False) { tmps := (ps.zip (encs i)).foldl (fun t (p, v) => t.setIfInBounds p v) a.tmps, defers := [] } W)
    (hS : ∀ b, S b → b < w.heap.size)
    (hbody : ∀ (l B i : Nat) (a' : Act) (W : World), i < m → w.heap.size + 1 < B → I i W → A B i a' W → body.wpIn (Fence.wide.inRound l) (n - 1 - 1) P (fun e _ W' => e = .normal ∧ I (i + 1) W' ∧ KeepP (fun b => S b ∨ B ≤ b) W W') a' W)
    (hbodym : ∀ (l B : Nat) (a' : Act) (W : World), w.heap.size + 1 < B → I m W → A B m a' W → body.wpIn (Fence.wide.inRound l) (n - 1 - 1) P (fun e _ W' => e = .ret ∧ I (m + 1) W' ∧ KeepP (fun b => S b ∨ B ≤ b) W W') a' W)
    (hstop : ∀ (D : Nat) (W : World), w.heap.size ≤ D → I (m + 1) W → W.heap[D]? = some (.deferred (some [])) → Code.ret.wpIn Fence.wide n P Q { a with defers := { target := .collected D, args := #[] } :: a.defers } W) :
    (Code.rangeFunc g ps assign body).wpIn Fence.wide n P Q a w := by
  refine wpIn_rangeFunc fun fn _ => ?_
  obtain ⟨rc, hrc⟩ : ∃ rc : LoopState → Option Code → Loop, ∀ st pe, rc st pe = { state := st, pending := pe, fn, tmps := a.tmps, params := ps, assign, body, defers := w.heap.size } := ⟨_, fun _ _ => rfl⟩
  obtain ⟨V, hV⟩ : ∃ V, (w.alloc (.deferred (some []))).alloc (.loop (rc .ready none)) = V := ⟨_, rfl⟩
  have hbV : Below w.heap.size w V := hV ▸ ((Below.refl _ w).alloc (Nat.le_refl _) _).alloc (by simp) _
  have hL : V.heap[w.heap.size + 1]? = some (.loop (rc .ready none)) := by
    rw [← hV]; have := World.alloc_heap_new (w.alloc (.deferred (some []))) (.loop (rc .ready none)); rwa [World.size_alloc] at this
  have hD : V.heap[w.heap.size]? = some (.deferred (some [])) := by
    rw [← hV]; exact (Below.heap_alloc _ _ _ (by simp)).trans (World.alloc_heap_new w _)
  refine ⟨w.heap.size + 1, [{ target := .collected w.heap.size, args := #[] }], V, { target := .fn (.func gf) lb, args := rcv ++ #[.func (.yield (w.heap.size + 1)) #[] #[]] }, V, gf, rcv ++ #[.func (.yield (w.heap.size + 1)) #[] #[]] ++ lb, V, ?_, ?_, fun _ _ => trivial, ?_, fun h => by simp [Fence.wide] at h, ?_⟩
  · rw [← hV, hrc]; exact run_enterLoop_outer _ _ _ _ _
  · simp only [resolve, hg]
    simp [go_sem]
  · simp [invoke, go_sem, eg]
  · have keep : ∀ {A B : World} {k : Nat} {o : Obj}, A.heap[k]? = some o → Below A.heap.size A B → B.heap[k]? = some o := fun hx hb => (hb.block _ (Array.getElem?_eq_some_iff.1 hx).1).trans hx
    refine (hit (w.heap.size + 1) V (fun i W => I i W ∧ W.heap[w.heap.size + 1]? = some (.loop (if i ≤ m then rc .ready none else rc .done (some .ret))) ∧ W.heap[w.heap.size]? = some (.deferred (some []))) (Nat.le_succ _) (Array.getElem?_eq_some_iff.1 hL).1 hbV
      (fun i W W' h hb => ⟨hIb i _ W W' hbV.size h.1 hb, (hb.block _ (Array.getElem?_eq_some_iff.1 hL).1).trans h.2.1, (hb.block _ (Array.getElem?_eq_some_iff.1 hD).1).trans h.2.2⟩) ?_ ?_ ⟨hIb 0 _ _ _ (Nat.le_refl _) h0 hbV, by rw [if_pos (Nat.zero_le _)]; exact hL, hD⟩).mono ?_
    · rintro i W hi ⟨hI, hl, hd⟩
      rw [if_pos (show i ≤ m by omega)] at hl
      rw [if_pos (show i + 1 ≤ m by omega)]
      have hy := run_yield (P := P) (args := encs i) hl (by rw [hrc]; exact hps i)
      rw [hrc] at hy
      refine ⟨fn, _, assign, body, hy, roundIn_of_wpIn trivial (hassign _ i W _ hI (Array.getElem?_eq_some_iff.1 hl).1 fun a' W0 hb0 hI0 hA0 => ⟨_, run_beginRound (keep hl hb0) (by rw [hrc]), ?_⟩)⟩
      have hl0 := keep hl hb0
      have hd0 := keep hd hb0
      obtain ⟨X, hX⟩ : ∃ X, W0.putObj (w.heap.size + 1) (.loop { rc .ready none with state := .busy }) = X := ⟨_, rfl⟩
      rw [hX]
      have hlX : X.heap[w.heap.size + 1]? = some (.loop { rc .ready none with state := .busy }) := hX ▸ World.putObj_heap_same (Array.getElem?_eq_some_iff.1 hl0).1
      have hoX : ∀ k, k ≠ w.heap.size + 1 → X.heap[k]? = W0.heap[k]? := fun k hk => hX ▸ World.putObj_heap_other (fun e => hk e)
      have hIX : I i X := hX ▸ hIp i W0 _ _ (by omega) hI0
      have hAX : A W.heap.size i a' X := hX ▸ hAp _ i a' W0 _ hA0
      have hlW := (Array.getElem?_eq_some_iff.1 hl).1
      refine wpIn_mono (hbody _ _ i a' X hi hlW hIX hAX) ?_
      rintro e a3 Y ⟨rfl, hI3, hk⟩
      have hlY := hk.block _ _ (fun h => h.elim (fun h => by have := hS _ h; omega) (fun h => by omega)) hlX
      have hr := run_endRound (P := P) none hlY
      obtain ⟨Z, hZ⟩ : ∃ Z, Y.putObj (w.heap.size + 1) (.loop { { rc .ready none with state := .busy } with state := if (none : Option Code).isNone then .ready else .done, pending := none }) = Z := ⟨_, rfl⟩
      rw [hZ] at hr
      have hlZ : Z.heap[w.heap.size + 1]? = some (.loop (rc .ready none)) := by
        rw [← hZ, World.putObj_heap_same (Array.getElem?_eq_some_iff.1 hlY).1, hrc]; rfl
      have hoZ : ∀ k, k ≠ w.heap.size + 1 → Z.heap[k]? = Y.heap[k]? := fun k hk => hZ ▸ World.putObj_heap_other (fun e => hk e)
      refine ⟨_, _, hr, rfl, ⟨hZ ▸ hIp _ Y _ _ (by omega) hI3, hlZ, ?_⟩, ?_⟩
      · rw [hoZ _ (by omega)]
        exact hk.block _ _ (fun h => h.elim (fun h => by have := hS _ h; omega) (fun h => by omega)) ((hoX _ (by omega)).trans hd0)
      · refine ⟨?_, ?_, ?_, ?_, fun k o hk2 hx => ?_⟩
        · rw [← hZ]; exact hk.os.trans ((hX ▸ rfl : X.os = W0.os).trans hb0.os)
        · rw [← hZ]; exact hk.tape.trans ((hX ▸ rfl : X.tape = W0.tape).trans hb0.tape)
        · rw [← hZ]; exact hk.output.trans ((hX ▸ rfl : X.output = W0.output).trans hb0.output)
        · rw [← hZ, putObj_size]; have := hk.size; rw [← hX, putObj_size] at this; have := hb0.size; omega
        · by_cases e : k = w.heap.size + 1
          · subst e; rw [hlZ, ← hl, hx]
          · rw [hoZ k e]; exact hk.block k o (fun h => h.elim hk2 (fun h => by have := (Array.getElem?_eq_some_iff.1 hx).1; omega)) ((hoX k e).trans (keep hx hb0))
    · rintro W ⟨hI, hl, hd⟩
      rw [if_pos (Nat.le_refl m)] at hl
      rw [if_neg (show ¬ m + 1 ≤ m by omega)]
      have hy := run_yield (P := P) (args := encs m) hl (by rw [hrc]; exact hps m)
      rw [hrc] at hy
      refine ⟨fn, _, assign, body, hy, roundIn_of_wpIn trivial (hassign _ m W _ hI (Array.getElem?_eq_some_iff.1 hl).1 fun a' W0 hb0 hI0 hA0 => ⟨_, run_beginRound (keep hl hb0) (by rw [hrc]), ?_⟩)⟩
      have hl0 := keep hl hb0
      have hd0 := keep hd hb0
      obtain ⟨X, hX⟩ : ∃ X, W0.putObj (w.heap.size + 1) (.loop { rc .ready none with state := .busy }) = X := ⟨_, rfl⟩
      rw [hX]
      have hlX : X.heap[w.heap.size + 1]? = some (.loop { rc .ready none with state := .busy }) := hX ▸ World.putObj_heap_same (Array.getElem?_eq_some_iff.1 hl0).1
      have hoX : ∀ k, k ≠ w.heap.size + 1 → X.heap[k]? = W0.heap[k]? := fun k hk => hX ▸ World.putObj_heap_other (fun e => hk e)
      have hIX : I m X := hX ▸ hIp m W0 _ _ (by omega) hI0
      have hAX : A W.heap.size m a' X := hX ▸ hAp _ m a' W0 _ hA0
      have hlW := (Array.getElem?_eq_some_iff.1 hl).1
      refine wpIn_mono (hbodym _ _ a' X hlW hIX hAX) ?_
      rintro e a3 Y ⟨rfl, hI3, hk⟩
      have hlY := hk.block _ _ (fun h => h.elim (fun h => by have := hS _ h; omega) (fun h => by omega)) hlX
      have hr := run_endRound (P := P) (some .ret) hlY
      obtain ⟨Z, hZ⟩ : ∃ Z, Y.putObj (w.heap.size + 1) (.loop { { rc .ready none with state := .busy } with state := if (some Code.ret : Option Code).isNone then .ready else .done, pending := some .ret }) = Z := ⟨_, rfl⟩
      rw [hZ] at hr
      have hlZ : Z.heap[w.heap.size + 1]? = some (.loop (rc .done (some .ret))) := by
        rw [← hZ, World.putObj_heap_same (Array.getElem?_eq_some_iff.1 hlY).1, hrc, hrc]; rfl
      have hoZ : ∀ k, k ≠ w.heap.size + 1 → Z.heap[k]? = Y.heap[k]? := fun k hk => hZ ▸ World.putObj_heap_other (fun e => hk e)
      refine ⟨_, _, hr, rfl, ⟨hZ ▸ hIp _ Y _ _ (by omega) hI3, hlZ, ?_⟩, ?_⟩
      · rw [hoZ _ (by omega)]
        exact hk.block _ _ (fun h => h.elim (fun h => by have := hS _ h; omega) (fun h => by omega)) ((hoX _ (by omega)).trans hd0)
      · refine ⟨?_, ?_, ?_, ?_, fun k o hk2 hx => ?_⟩
        · rw [← hZ]; exact hk.os.trans ((hX ▸ rfl : X.os = W0.os).trans hb0.os)
        · rw [← hZ]; exact hk.tape.trans ((hX ▸ rfl : X.tape = W0.tape).trans hb0.tape)
        · rw [← hZ]; exact hk.output.trans ((hX ▸ rfl : X.output = W0.output).trans hb0.output)
        · rw [← hZ, putObj_size]; have := hk.size; rw [← hX, putObj_size] at this; have := hb0.size; omega
        · have e : k ≠ w.heap.size + 1 := fun e => hk2 (.inr e)
          rw [hoZ k e]; exact hk.block k o (fun h => h.elim (fun h => hk2 (.inl h)) (fun h => by have := (Array.getElem?_eq_some_iff.1 hx).1; omega)) ((hoX k e).trans (keep hx hb0))
    · rintro e W2 ⟨⟨v, rfl⟩, hI, hl, hd⟩
      rw [if_neg (show ¬ m + 1 ≤ m by omega)] at hl
      have hr := run_endLoop (P := P) hl (by rw [hrc]; simp)
      refine ⟨some .ret, _, by rw [hr, hrc], hstop _ _ (Nat.le_refl _) (hIp _ _ _ _ (by omega) hI) ((World.putObj_heap_other (by omega)).trans hd)⟩
end Go.Proofs.Ytolnpbpeifpbjaa
