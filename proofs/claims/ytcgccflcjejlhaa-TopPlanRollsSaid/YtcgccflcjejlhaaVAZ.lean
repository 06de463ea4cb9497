/- Part of the proof: what the claim leans on. -/
import Derived.Test.YtcgccflcjejlhaaVAY
set_option maxHeartbeats 16000000
set_option maxRecDepth 100000
set_option linter.unusedSimpArgs false
set_option linter.unusedVariables false
namespace Go.Proofs.Ytcgccflcjejlhaa
open Go.RowKit
theorem lists_it (nu de tl : Int) (ss : Nat → Int × Int) (ra : Option Addr) (n c many : Nat) (qa : Option Addr) (m cq : Nat) {w : World} (hO : SpL w ra n ss) (gn : n ≤ 6) (gmn : many ≤ n) (bm bp l : Nat) (G1 : Nat → Prop) (J : Nat → (Nat → Prop) → World → Prop) (SS : (Nat → Prop) → World → Prop) (v1 : World) (hB0 : Below w.heap.size w v1) (hbm : v1.heap[bm]? = some (.cells #[.int .i64 ((many : Int))] 3 (0, 0))) (hbp : v1.heap[bp]? = some (.cells #[.int .i64 nu, .int .i64 de, .int .i64 tl, .slice ra n c, .slice qa m cq] 130 (0, 0))) (hJs : StabX (fun _ => False) J v1.heap.size) (hSs : StabS SS v1.heap.size) (hJG : ∀ i G W, J i G W → ∀ b, G b → w.heap.size ≤ b ∧ b < W.heap.size) (hGb : ∀ i G W, J i G W → ∀ b, G b → b < v1.heap.size ∧ b ≠ bm ∧ b ≠ bp) (sgb_ : ∀ G W, SS G W → ∀ b, v1.heap.size ≤ b → ¬ G b) (hll : l < v1.heap.size) (hY : ∀ i G W, J i G W → v1.heap.size ≤ W.heap.size → ∀ g c xs, OwnR 3 1 v1.heap.size xs.length (iis xs) g c W → xs.length = many → GoodL n xs → YieldAt Fence.wide 8 Try.prog l #[.slice (some ⟨g, 0, none⟩) xs.length c] W (YldE l J SS i G W)) (hJ0 : J 0 G1 v1) :
    CallsIn Fence.wide 9 Try.prog 82 #[.func (.yield l) #[] #[], .pointer (some ⟨bm, 0, none⟩), .pointer (some ⟨bp, 0, none⟩)] v1 fun e W' => (∃ v, e = .returned v) ∧ ((∃ i G, True ∧ J i G W') ∨ ∃ G, SS G W') := by
  have hzv_ := Below.size hB0
  have hGlt_ := fun b hb => (hGb _ _ _ hJ0 b hb).1
  refine callsIn_wide.2 (calls_frM (n := 9) Try.func82 Try.ntmps82 rfl rfl fun g hg => ?_)
  have k0 : g 0 = .func (.yield l) #[] #[] := hg 0
  have k1 : g 1 = .pointer (some ⟨bm, 0, none⟩) := hg 1
  have k2 : g 2 = .pointer (some ⟨bp, 0, none⟩) := hg 2
  clear hg
  have lt_bm := ltb hbm
  have lt_bp := ltb hbp
  refine wp_seq_k fun K1 hK1 => ?_
  refine rz 3 [(7, 0), (8, 1), (4, 2)] [[], [0], [], [0, 1, 2]] (rel [row 0 0 #[] 3, fun v s W => v = .slice (some ⟨(s 1), 0, none⟩) (1) (1) ∧ W.heap[(s 1)]? = some (.cells #[.slice (some ⟨(s 0), 0, none⟩) (0) (0)] 25 (0, 0)), bx 2 #[.slice none 0 0] 26])
    ⟨row_k, ⟨fun v k W W' hb h => ⟨h.1, bwb h.2 hb⟩, fun v s s' W e h => by have h' : v = .slice (some ⟨(s 1), 0, none⟩) (1) (1) ∧ W.heap[(s 1)]? = some (.cells #[.slice (some ⟨(s 0), 0, none⟩) (0) (0)] 25 (0, 0)) := h; show v = .slice (some ⟨(s' 1), 0, none⟩) (1) (1) ∧ W.heap[(s' 1)]? = some (.cells #[.slice (some ⟨(s' 0), 0, none⟩) (0) (0)] 25 (0, 0)); rw [← e 0 (by simp), ← e 1 (by simp)]; exact h'⟩, bx_k, trivial⟩
    ⟨fun f s W x y z B C a => opr rfl rfl (by simp [go_sem]),
    fun f s W x y z B C a => opDo_value (v := .slice (some ⟨W.heap.size, 0, none⟩) 1 1) rfl rfl (by simp [go_sem, a.e 7 (y 0 rfl).1, upd]) (balloc1 _ _) ⟨rfl, blk_new rfl⟩,
    fun f s W x y z B C a => opb rfl rfl (by simp [go_sem]), trivial⟩ ?_
  intro f1 s1 W1 hB1 g1 hg1 z1
  have fB1 := hB1.f hB0
  have b1_0 := hB1.b hbm
  have b1_1 := hB1.b hbp
  have q1' := (StabX.below hJs hJ0 hB1.below)
  have q2' := (Nat.le_trans (Nat.le_refl v1.heap.size) (Below.size hB1.below))
  obtain ⟨r1_0, br1_0⟩ := hB1.is 0
  have lr1_0 := hB1.lr 0 br1_0
  obtain ⟨r1_1, br1_1⟩ := hB1.is 1
  have lr1_1 := hB1.lr 1 br1_1
  obtain ⟨r1_2, br1_2⟩ := hB1.is 2
  have lr1_2 := hB1.lr 2 br1_2
  have ne1_0_1 := hB1.nb 0 1
  have ne1_0_2 := hB1.nb 0 2
  have ne1_1_2 := hB1.nb 1 2
  have k1_0 := kt hg1 0 k0
  have k1_1 := kt hg1 1 k1
  have k1_2 := kt hg1 2 k2
  have k1_8 := kt hg1 8 r1_1
  have k1_4 := kt hg1 4 r1_2
  obtain ⟨W2, hW2⟩ : ∃ W', W' = W1.setRow (s1 2) #[.slice (some ⟨(s1 1), 0, none⟩) (1) (1)] := ⟨_, rfl⟩
  refine tsk (o := _) rfl ⟨rfl, rfl⟩ (run_seg hW2 (fr_ev k1_4) (fr_ev k1_8) br1_2 rfl rfl rfl rfl) ?_
  obtain ⟨fB2, nb2, ot2, z2⟩ := sgf hW2 fB1 br1_2 (by omega)
  have q3' := (hJs _ _ _ _ q1' (keepX_P (keepX_row hW2) (.inr ⟨by omega, fun hg_ => by have := hGlt_ _ hg_; omega⟩)))
  have q4' := (setRow_le q2' hW2)
  clear hW2
  have b2_0 := ot2 _ _ (by omega) b1_0
  have b2_1 := ot2 _ _ (by omega) b1_1
  have b2_2 := ot2 _ _ (by omega) br1_0
  have b2_3 := ot2 _ _ (by omega) br1_1
  refine wpe ?_
  refine hK1 _ _ ?_
  refine wp_block ?_
  have hst0_ : OwnR 25 1 w.heap.size 1 [.slice (some ⟨(s1 0), 0, none⟩) 0 0] (s1 1) 1 W2 := ownR_made (cs := #[.slice (some ⟨(s1 0), 0, none⟩) 0 0]) b2_3 (by omega) rfl rfl
  have hls0_ : LsR v1.heap.size [[]] [.slice (some ⟨(s1 0), 0, none⟩) 0 0] W2 := ⟨rfl, fun j hj => by
    have e_ : j = 0 := by simp at hj; omega
    subst e_
    exact ⟨(s1 0), 0, rfl, ownR_made (cs := #[]) b2_2 (by omega) rfl rfl⟩⟩
  refine wp_loop_n (fun m_ a_ W_ => ∃ Ds : List Nat, ∃ g_ : Nat → Value, a_ = frD (Ds.map mkD) 50 g_ ∧ (∃ i_ : Nat, ∃ G : Nat → Prop, ∃ q : Nat, ∃ Ls : List LiI, ∃ cs : List Value, ∃ gs : Nat, ∃ cq_ : Nat, m_ = muL n many Ls ∧ g_ 0 = .func (.yield l) #[] #[] ∧ g_ 1 = .pointer (some ⟨bm, 0, none⟩) ∧ g_ 2 = .pointer (some ⟨bp, 0, none⟩) ∧ g_ 4 = .pointer (some ⟨(s1 2), 0, none⟩) ∧ Below w.heap.size w W_ ∧ W2.heap.size ≤ W_.heap.size ∧ W_.heap[bm]? = some (.cells #[.int .i64 ((many : Int))] 3 (0, 0)) ∧ W_.heap[bp]? = some (.cells #[.int .i64 nu, .int .i64 de, .int .i64 tl, .slice ra n c, .slice qa m cq] 130 (0, 0)) ∧ W_.heap[(s1 2)]? = some (.cells #[.slice (some ⟨gs, 0, none⟩) q cq_] 26 (0, 0)) ∧ J i_ G W_ ∧ OwnR 25 1 w.heap.size q cs gs cq_ W_ ∧ LsR v1.heap.size Ls cs W_ ∧ MarksOk W_ Ds ∧ v1.heap.size ≤ W_.heap.size ∧ (Ls.length = q) ∧ (AllG n many Ls) ∧ (v1.heap.size ≤ gs) ∧ (∀ D ∈ Ds, v1.heap.size ≤ D) ∧ (muL n many Ls ≤ 100000))) ⟨_, [], g1, rfl, 0, G1, 1, [[]], [.slice (some ⟨(s1 0), 0, none⟩) 0 0], (s1 1), 1, rfl, k1_0, k1_1, k1_2, k1_4, fB2, Nat.le_refl _, b2_0, b2_1, nb2, q3', hst0_, hls0_, ⟨List.Pairwise.nil, fun _ h => nomatch h⟩, q4', rfl, (fun l hl => by obtain rfl := List.mem_singleton.1 hl; exact ⟨GoodL.nil n, Nat.zero_le _⟩), (by omega), (fun _ h => nomatch h), (by have h_ := fM_bd n (by omega) many (by omega); show fM n (many - 0) + 0 ≤ 100000; omega)⟩ ?_
  rintro _ _ W_5 ⟨Ds, g_5, rfl, i_, G, q, Ls, cs, gs, cq_, rfl, k_5_0, k_5_1, k_5_2, k_5_4, fB_5, z_5, b_5_0, b_5_1, m_5_0, q6', q7', q8', q9', q10', lk0, lk1, lk2, lk3, lk4⟩
  have hDs_ := lk3
  refine wp_seq_k fun K2 hK2 => ?_
  refine wp_seq_k fun K3 hK3 => ?_
  refine region_doD 3 [(9, 0), (10, 1), (11, 2)] [[], [0], [0, 1]] (rel [is (.slice (some ⟨gs, 0, none⟩) q cq_),
      is (.int .i64 ((q : Int))),
      is (.bool (decide (0 < (q : Int))))]) (by kernel_rfl) (by kernel_rfl) (by kernel_rfl) (by kernel_rfl)
    ⟨is_k, is_k, is_k, trivial⟩
    ⟨fun f s W x y z B C a => opv rfl rfl (by simp [go_sem, a.e 4 k_5_4, cb m_5_0 x 0]) rfl,
    fun f s W x y z B C a => opv rfl rfl (by simp [go_sem, a.e 9 (y 0 rfl)]) rfl,
    fun f s W x y z B C a => opv rfl rfl (by simp [go_sem, a.e 10 (y 1 rfl)]) rfl, trivial⟩ ?_
  intro f3 s3 W3 hB3
  have z3 := hB3.below.size
  have b3_2 := hB3.b m_5_0
  have q11' := (StabX.below hJs q6' hB3.below)
  have q12' := (OwnR.below q7' hB3.below)
  have q13' := (LsR.below q8' hB3.below)
  have q14' := (MarksOk.below q9' hB3.below)
  have q15' := (Nat.le_trans q10' (Below.size hB3.below))
  refine hK3 _ _ ?_
  generalize hg3 : ov [(9, 0), (10, 1), (11, 2)] f3 g_5 = g3
  have k3_4 := kt hg3 4 k_5_4
  have k3_11 := kt hg3 11 (hB3.is 2)
  refine wp_cond_split (t := decide (0 < (q : Int))) (show (fr 50 g3).eval _ = _ from (fr_eval rfl).trans k3_11) (fun hc4 => ?_) (fun hc4 => ?_)
  ·
    have hc4' := hc4; try simp only [ba] at hc4'
    obtain ⟨q0, rfl⟩ : ∃ q0, q = q0 + 1 := ⟨q - 1, by omega⟩
    obtain ⟨L0, l0, rfl, hL0⟩ := snoc_of_len lk0
    subst hL0
    obtain ⟨hPl_, ga_, ca_, hca_, hown_⟩ := LsR.pop q13'
    have hAG_ := AllG.pop lk1
    have hmu_ := muL_snoc n many l0 L0
    have hfp_ := fM_pos n (many - l0.length)
    have hlm_ := len_mu n many L0
    have hle_ := ownR_le q12'
    have hgl0_ := q12'.2.1
    have hgb0_ := q12'.1
    have hln_ := hAG_.2.2
    have hGlt_ := fun b hb => (hGb _ _ _ q11' b hb).1
    have hgl_ := hAG_.2.1
    ·
      refine wp_skip ?_
      refine hK2 _ _ ?_
      refine wp_block ?_
      refine wp_seq_k fun K5 hK5 => ?_
      refine region_doD 7 [(12, 0), (13, 1), (14, 2), (15, 3), (16, 4), (17, 5), (5, 6)] [[], [], [1], [1, 2], [0, 1, 2, 3], [0, 1, 2, 3, 4], [], [0, 1, 2, 3, 4, 5, 6]] (rel [is (.slice (some ⟨gs, 0, none⟩) ((L0.length + 1)) (cq_)),
      is (.slice (some ⟨gs, 0, none⟩) ((L0.length + 1)) (cq_)),
      is (.int .i64 (((L0.length + 1) : Int))),
      is (.int .i64 ((L0.length : Int))),
      is (.pointer (some ⟨gs, 0 + L0.length * 1, none⟩)),
      is (.slice (some ⟨ga_, 0, none⟩) (l0.length) ca_),
      bx 6 #[.slice none 0 0] 25]) (by kernel_rfl) (by kernel_rfl) (by kernel_rfl) (by kernel_rfl)
        ⟨is_k, is_k, is_k, is_k, is_k, is_k, bx_k, trivial⟩
        ⟨fun f s W x y z B C a => opv rfl rfl (by simp [go_sem, a.e 4 k3_4, cb b3_2 x 0]) rfl,
    fun f s W x y z B C a => opv rfl rfl (by simp [go_sem, a.e 4 k3_4, cb b3_2 x 0]) rfl,
    fun f s W x y z B C a => opv rfl rfl (by simp [go_sem, a.e 13 (y 1 rfl)]) rfl,
    fun f s W x y z B C a => by have rn_ : ((L0.length + 1) : Int) - 1 = (L0.length : Int) := (by omega); have rm_ := IntWalk.i64_in (L0.length : Int) (by omega); exact opv rfl rfl (by simp [go_sem, a.e 14 (y 2 rfl), IntWalk.i64_in (((L0.length + 1) : Int) - 1) (by omega), rn_, rm_]) rfl,
    fun f s W x y z B C a => by have li_ := Nat.not_le.2 (show L0.length < L0.length + 1 by omega); have li2_ : (L0.length : Int) < (L0.length : Int) + 1 := (by omega); exact opv rfl rfl (by simp [go_sem, a.e 12 (y 0 rfl), a.e 15 (y 3 rfl), li_, li2_]) rfl,
    fun f s W x y z B C a => by have cu_ := ((OwnR.below q12' x)).cell L0.length hca_; exact opv rfl rfl (by simp [go_sem, a.e 16 (y 4 rfl), cu_]) rfl,
    fun f s W x y z B C a => opb rfl rfl (by simp [go_sem]), trivial⟩ ?_
      intro f4 s4 W4 hB4
      have fB4 := hB4.f (hB3.f fB_5)
      have z4 := hB4.below.size
      have b4_0 := hB4.b (hB3.b b_5_0)
      have b4_1 := hB4.b (hB3.b b_5_1)
      have b4_2 := hB4.b b3_2
      have q16' := (StabX.below hJs q11' hB4.below)
      have q17' := (MarksOk.below q14' hB4.below)
      have q18' := (Nat.le_trans q15' (Below.size hB4.below))
      have q19' := (OwnR.below q12' hB4.below)
      have q20' := (LsR.below hPl_ hB4.below)
      have q21' := (OwnR.below hown_ hB4.below)
      obtain ⟨r4_6, br4_6⟩ := hB4.is 6
      have lr4_6 := hB4.lr 6 br4_6
      generalize hg4 : ov [(12, 0), (13, 1), (14, 2), (15, 3), (16, 4), (17, 5), (5, 6)] f4 g3 = g4
      have k4_0 := kt hg4 0 (kt hg3 0 k_5_0)
      have k4_1 := kt hg4 1 (kt hg3 1 k_5_1)
      have k4_2 := kt hg4 2 (kt hg3 2 k_5_2)
      have k4_4 := kt hg4 4 k3_4
      have k4_17 := kt hg4 17 (hB4.is 5)
      have k4_5 := kt hg4 5 r4_6
      obtain ⟨W5, hW5⟩ : ∃ W', W' = W4.setRow (s4 6) #[.slice (some ⟨ga_, 0, none⟩) (l0.length) ca_] := ⟨_, rfl⟩
      refine tail_skipD (o := _) rfl ⟨rfl, rfl⟩ (run_seg hW5 (fr_ev k4_5) (fr_ev k4_17) br4_6 rfl rfl rfl rfl) ?_
      obtain ⟨fB5, nb5, ot5, z5⟩ := sgf hW5 fB4 br4_6 (by omega)
      have q22' := (hJs _ _ _ _ q16' (keepX_P (keepX_row hW5) (.inr ⟨by omega, fun hg_ => by have := hGlt_ _ hg_; omega⟩)))
      have q23' := (MarksOk.setRow q17' br4_6 hW5)
      have q24' := (setRow_le q18' hW5)
      have q25' := (LsR.keep q20' (keepX_P (S := fun k_ => k_ = (s4 6)) (keepX_row hW5) rfl) (fun b_ e_ _ cur hc => by rw [show b_ = _ from e_, br4_6] at hc; exact absurd (Obj.cells.inj (Option.some.inj hc)).2.1 (by decide)))
      clear hW5
      have b5_0 := ot5 _ _ (by omega) b4_0
      have b5_1 := ot5 _ _ (by omega) b4_1
      have b5_2 := ot5 _ _ (by omega) b4_2
      have q26' := (OwnR.other q19' ot5 (by omega) z5)
      have q27' := (OwnR.other q21' ot5 (ownN_ne (.inr ⟨_, rfl, q21'⟩) br4_6 (by decide) _ rfl) z5)
      refine wpe ?_
      refine hK5 _ _ ?_
      refine wp_seq_k fun K6 hK6 => ?_
      refine region_doD 5 [(18, 0), (19, 1), (20, 2), (21, 3), (22, 4)] [[], [], [1], [1, 2], [0, 1, 2, 3], [0, 1, 2, 3, 4]] (rel [is (.slice (some ⟨gs, 0, none⟩) ((L0.length + 1)) (cq_)),
      is (.slice (some ⟨gs, 0, none⟩) ((L0.length + 1)) (cq_)),
      is (.int .i64 (((L0.length + 1) : Int))),
      is (.int .i64 ((L0.length : Int))),
      is (.slice (some ⟨gs, 0, none⟩) (L0.length) cq_)]) (by kernel_rfl) (by kernel_rfl) (by kernel_rfl) (by kernel_rfl)
        ⟨is_k, is_k, is_k, is_k, is_k, trivial⟩
        ⟨fun f s W x y z B C a => opv rfl rfl (by simp [go_sem, a.e 4 k4_4, cb b5_2 x 0]) rfl,
    fun f s W x y z B C a => opv rfl rfl (by simp [go_sem, a.e 4 k4_4, cb b5_2 x 0]) rfl,
    fun f s W x y z B C a => opv rfl rfl (by simp [go_sem, a.e 19 (y 1 rfl)]) rfl,
    fun f s W x y z B C a => by have rn_ : ((L0.length + 1) : Int) - 1 = (L0.length : Int) := (by omega); have rm_ := IntWalk.i64_in (L0.length : Int) (by omega); exact opv rfl rfl (by simp [go_sem, a.e 20 (y 2 rfl), IntWalk.i64_in (((L0.length + 1) : Int) - 1) (by omega), rn_, rm_]) rfl,
    fun f s W x y z B C a => opv rfl rfl (by simp [go_sem, a.e 18 (y 0 rfl), a.e 21 (y 3 rfl), show ((L0.length : Nat) : Int) ≤ (cq_ : Int) from by omega]) rfl, trivial⟩ ?_
      intro f6 s6 W6 hB6
      have fB6 := hB6.f fB5
      have z6 := hB6.below.size
      have b6_0 := hB6.b b5_0
      have b6_1 := hB6.b b5_1
      have b6_2 := hB6.b b5_2
      have b6_3 := hB6.b nb5
      have q28' := (OwnR.below q26' hB6.below)
      have q29' := (OwnR.below q27' hB6.below)
      have q30' := (StabX.below hJs q22' hB6.below)
      have q31' := (MarksOk.below q23' hB6.below)
      have q32' := (Nat.le_trans q24' (Below.size hB6.below))
      have q33' := (LsR.below q25' hB6.below)
      generalize hg6 : ov [(18, 0), (19, 1), (20, 2), (21, 3), (22, 4)] f6 g4 = g6
      have k6_0 := kt hg6 0 k4_0
      have k6_1 := kt hg6 1 k4_1
      have k6_2 := kt hg6 2 k4_2
      have k6_4 := kt hg6 4 k4_4
      have k6_5 := kt hg6 5 k4_5
      have k6_22 := kt hg6 22 (hB6.is 4)
      obtain ⟨W7, hW7⟩ : ∃ W', W' = W6.setRow (s1 2) #[.slice (some ⟨gs, 0, none⟩) (L0.length) cq_] := ⟨_, rfl⟩
      refine tail_skipD (o := _) rfl ⟨rfl, rfl⟩ (run_seg hW7 (fr_ev k6_4) (fr_ev k6_22) b6_2 rfl rfl rfl rfl) ?_
      obtain ⟨fB7, nb7, ot7, z7⟩ := sgf hW7 fB6 b6_2 (by omega)
      have q34' := (hJs _ _ _ _ q30' (keepX_P (keepX_row hW7) (.inr ⟨by omega, fun hg_ => by have := hGlt_ _ hg_; omega⟩)))
      have q35' := (MarksOk.setRow q31' b6_2 hW7)
      have q36' := (setRow_le q32' hW7)
      have q37' := (LsR.keep q33' (keepX_P (S := fun k_ => k_ = (s1 2)) (keepX_row hW7) rfl) (fun b_ e_ _ cur hc => by rw [show b_ = _ from e_, b6_2] at hc; exact absurd (Obj.cells.inj (Option.some.inj hc)).2.1 (by decide)))
      clear hW7
      have b7_0 := ot7 _ _ (by omega) b6_0
      have b7_1 := ot7 _ _ (by omega) b6_1
      have b7_3 := ot7 _ _ (by omega) b6_3
      have q38' := (OwnR.other q28' ot7 (ownN_ne (.inr ⟨_, rfl, q28'⟩) b6_2 (by decide) _ rfl) z7)
      have q39' := (OwnR.other q29' ot7 (ownN_ne (.inr ⟨_, rfl, q29'⟩) b6_2 (by decide) _ rfl) z7)
      refine wpe ?_
      refine hK6 _ _ ?_
      have hsp_ := OwnR.pop q38'
      refine wp_seq_k fun K7 hK7 => ?_
      refine wp_seq_k fun K8 hK8 => ?_
      refine region_doD 4 [(23, 0), (24, 1), (25, 2), (26, 3)] [[], [0], [], [0, 1, 2]] (rel [is (.slice (some ⟨ga_, 0, none⟩) (l0.length) ca_),
      is (.int .i64 ((l0.length : Int))),
      is (.int .i64 ((many : Int))),
      is (.bool ((l0.length : Int) == (many : Int)))]) (by kernel_rfl) (by kernel_rfl) (by kernel_rfl) (by kernel_rfl)
        ⟨is_k, is_k, is_k, is_k, trivial⟩
        ⟨fun f s W x y z B C a => opv rfl rfl (by simp [go_sem, a.e 5 k6_5, cb b7_3 x 0]) rfl,
    fun f s W x y z B C a => opv rfl rfl (by simp [go_sem, a.e 23 (y 0 rfl)]) rfl,
    fun f s W x y z B C a => opv rfl rfl (by simp [go_sem, a.e 1 k6_1, cb b7_0 x 0]) rfl,
    fun f s W x y z B C a => opv rfl rfl (by simp [go_sem, a.e 24 (y 1 rfl), a.e 25 (y 2 rfl)]) rfl, trivial⟩ ?_
      intro f8 s8 W8 hB8
      have fB8 := hB8.f fB7
      have z8 := hB8.below.size
      have b8_0 := hB8.b b7_0
      have b8_1 := hB8.b b7_1
      have b8_2 := hB8.b nb7
      have b8_3 := hB8.b b7_3
      have q40' := (OwnR.below q39' hB8.below)
      have q41' := (StabX.below hJs q34' hB8.below)
      have q42' := (MarksOk.below q35' hB8.below)
      have q43' := (Nat.le_trans q36' (Below.size hB8.below))
      have q44' := (LsR.below q37' hB8.below)
      have q45' := (OwnR.below hsp_ hB8.below)
      refine hK8 _ _ ?_
      generalize hg8 : ov [(23, 0), (24, 1), (25, 2), (26, 3)] f8 g6 = g8
      have k8_0 := kt hg8 0 k6_0
      have k8_1 := kt hg8 1 k6_1
      have k8_2 := kt hg8 2 k6_2
      have k8_4 := kt hg8 4 k6_4
      have k8_5 := kt hg8 5 k6_5
      have k8_26 := kt hg8 26 (hB8.is 3)
      refine wp_cond_split (t := (l0.length : Int) == (many : Int)) (show (fr 50 g8).eval _ = _ from (fr_eval rfl).trans k8_26) (fun hc9 => ?_) (fun hc9 => ?_)
      ·
        have hc9' := hc9; try simp only [ba] at hc9'
        have hyl_ : l0.length = many := by omega
        refine wp_seq_k fun K10 hK10 => ?_
        refine wp_seq_k fun K11 hK11 => ?_
        refine (wpIn_wide (n := 9)).1 (wpIn_region ?_)
        show wpOpsIn _ _ _ _ _ [0, 1, 2, 3] _ _
        refine inD_value (o := _) rfl rfl rfl (v := .func (.yield l) #[] #[]) (by simp [go_sem, frD_evv (N := 50) (ds := (Ds.map mkD)) k8_0]) ?_
        generalize hg9 : upd g8 27 (.func (.yield l) #[] #[]) = g9
        have k9_5 := ku hg9 5 k8_5
        refine inD_value (o := _) rfl rfl rfl (v := .slice (some ⟨ga_, 0, none⟩) (l0.length) ca_) (by simp [go_sem, frD_evv (N := 50) (ds := (Ds.map mkD)) k9_5, cl b8_3 0]) ?_
        generalize hg10 : upd g9 28 (.slice (some ⟨ga_, 0, none⟩) (l0.length) ca_) = g10
        have k10_0 := ku hg10 0 (ku hg9 0 k8_0)
        have k10_1 := ku hg10 1 (ku hg9 1 k8_1)
        have k10_2 := ku hg10 2 (ku hg9 2 k8_2)
        have k10_4 := ku hg10 4 (ku hg9 4 k8_4)
        have k10_5 := ku hg10 5 k9_5
        have k10_27 := ku hg10 27 (kt hg9 27 (upd_same _ _ _))
        have k10_28 := kt hg10 28 (upd_same _ _ _)
        refine inD_round (o := _) (d := 29) rfl rfl rfl (l := l) (args := #[.slice (some ⟨ga_, 0, none⟩) (l0.length) ca_]) (by simp [go_sem, frD_evv (N := 50) (ds := (Ds.map mkD)) k10_27, frD_evv (N := 50) (ds := (Ds.map mkD)) k10_28]) (yieldAt_fuel (hY i_ _ _ q41' q43'  _ _ _ q40' hyl_ hgl_)) ?_ (fun _ h => by rcases h with h | h <;> exact nomatch h.1) (fun _ _ h => by rcases h with h | h <;> exact nomatch h.1)
        rintro v_ W11 (⟨rv11, G11, jj11, kx11, gg11⟩ | ⟨rv11, G11, jj11, kl11⟩)
        ·
          obtain rfl := Ending.returned.inj rv11
          have kz11 := kx11.size
          have hge11 := hJG _ _ _ q41'
          have hgb11 := hGb _ _ _ q41'
          have fB11 : Below w.heap.size w W11 := Below.trans fB8 (kx11.below (fun b hb => (hge11 b hb).1) (Below.size fB8))
          have by11_0 := kx11.block _ _ (fun e => by have h_ := hgb11 _ e; omega) b8_0
          have by11_1 := kx11.block _ _ (fun e => by have h_ := hgb11 _ e; omega) b8_1
          have by11_2 := kx11.block _ _ (fun e => by have h_ := hgb11 _ e; omega) b8_2
          have ys11 := OwnR.sameT q45' kz11 (fun o ho => kx11.block _ _ (fun e => by have h_ := hgb11 _ e; omega) ho)
          have yl11 := LsR.keep q44' kx11 (fun b e hb cur hc => by have h_ := hgb11 _ e; omega)
          have ym11 := MarksOk.keep q42' kx11 (fun D hD e => by have h_ := hgb11 _ e; have h2_ := hDs_ D hD; omega)
          have yv11 : v1.heap.size ≤ W11.heap.size := by have h_ := q43'; omega
          generalize hg11 : upd g10 29 (.bool true) = g11
          have k11_0 := ku hg11 0 k10_0
          have k11_1 := ku hg11 1 k10_1
          have k11_2 := ku hg11 2 k10_2
          have k11_4 := ku hg11 4 k10_4
          have k11_5 := ku hg11 5 k10_5
          have k11_29 := kt hg11 29 (upd_same _ _ _)
          refine inD_value (o := _) rfl rfl rfl (v := .bool false) (by simp [go_sem, frD_evv (N := 50) (ds := (Ds.map mkD)) k11_29]) ?_
          generalize hg12 : upd g11 30 (.bool false) = g12
          have k12_0 := ku hg12 0 k11_0
          have k12_1 := ku hg12 1 k11_1
          have k12_2 := ku hg12 2 k11_2
          have k12_4 := ku hg12 4 k11_4
          have k12_30 := kt hg12 30 (upd_same _ _ _)
          refine hK11 _ _ ?_
          refine wp_cond_false (show (fr 50 g12).eval _ = _ from (fr_eval rfl).trans k12_30) ?_
          refine wp_skip ?_
          refine hK10 _ _ ?_
          refine wp_exit ?_
          refine then_exit ?_
          refine inBlock_at ?_
          refine then_normal ?_
          exact ⟨_, by omega, Ds, g12, rfl, (i_ + 1), G11, L0.length, L0, (cs.take L0.length), gs, cq_, rfl, k12_0, k12_1, k12_2, k12_4, fB11, (by omega), by11_0, by11_1, by11_2, jj11, ys11, yl11, ym11, yv11, rfl, hAG_.1, lk2, hDs_, (by omega)⟩
        ·
          obtain rfl := Ending.returned.inj rv11
          have ym11 := MarksOk.keep q42' kl11 (fun D hD e => by rcases e with e | e; have h_ := hGb _ _ _ q41' _ e; have h2_ := hDs_ D hD; omega; have h2_ := hDs_ D hD; omega)
          generalize hg11 : upd g10 29 (.bool false) = g11
          have k11_0 := ku hg11 0 k10_0
          have k11_1 := ku hg11 1 k10_1
          have k11_2 := ku hg11 2 k10_2
          have k11_4 := ku hg11 4 k10_4
          have k11_5 := ku hg11 5 k10_5
          have k11_29 := kt hg11 29 (upd_same _ _ _)
          refine inD_value (o := _) rfl rfl rfl (v := .bool true) (by simp [go_sem, frD_evv (N := 50) (ds := (Ds.map mkD)) k11_29]) ?_
          generalize hg13 : upd g11 30 (.bool true) = g13
          have k13_30 := kt hg13 30 (upd_same _ _ _)
          refine hK11 _ _ ?_
          refine wp_cond_true (show (fr 50 g13).eval _ = _ from (fr_eval rfl).trans k13_30) ?_
          refine wp_ret ?_
          refine then_ret (then_ret (inBlock_ret (then_ret (inBlock_ret ?_))))
          exact leave_marks (v := .tuple #[]) (Ds := Ds) (.inr rfl) rfl rfl ym11 (fun W' => by simp [results, Try.results82, go_sem]) fun W' hk => ⟨⟨_, rfl⟩, .inr ⟨_, hSs _ _ _ jj11 (hk.more fun b hb => ⟨hDs_ b hb, sgb_ _ _ jj11 b (hDs_ b hb), noCells_of (ym11.2 b hb) (fun _ _ _ h => nomatch h)⟩)⟩⟩
      ·
        have hc9' := hc9; try simp only [ba] at hc9'
        have hlt_ : l0.length < many := by omega
        have hfs_ := fM_succ (n := n) (d := many - l0.length) (e := many - l0.length - 1) (by omega)
        refine wp_skip ?_
        refine hK7 _ _ ?_
        refine wp_seq_k fun K14 hK14 => ?_
        refine region_doD 5 [(31, 0), (32, 1), (33, 2), (34, 3), (35, 4)] [[], [0], [0, 1], [0, 1, 2], [0, 1, 2, 3]] (rel [is (.pointer (some ⟨bp, 0, none⟩)),
      is (.pointer (some ⟨bp, 0, none⟩)),
      is (.pointer (some ⟨bp, 3, none⟩)),
      is (.slice ra n c),
      ab fun v W => IsBw W8.heap.size ra n c v W]) (by kernel_rfl) (by kernel_rfl) (by kernel_rfl) (by kernel_rfl)
          ⟨is_k, is_k, is_k, is_k, ab_k fun v W W' hb h => (IsBw.below h hb), trivial⟩
          ⟨fun f s W x y z B C a => opv rfl rfl (by simp [go_sem, a.e 2 k8_2]) rfl,
    fun f s W x y z B C a => opv rfl rfl (by simp [go_sem, a.e 31 (y 0 rfl)]) rfl,
    fun f s W x y z B C a => opv rfl rfl (by simp [go_sem, a.e 32 (y 1 rfl)]) rfl,
    fun f s W x y z B C a => opv rfl rfl (by simp [go_sem, a.e 33 (y 2 rfl), cb b8_1 x 3]) rfl,
    fun f s W x y z B C a => opd rfl rfl (by simp [go_sem, a.e 34 (y 3 rfl)]) (ro_backward ra n c W) ((fun e W' h => by obtain ⟨v, e1, ⟨b_, e2, h1, h2⟩, h3⟩ := h; exact ⟨_, e1, h3, ⟨b_, e2, h1, Nat.le_trans x.size h2⟩⟩)), trivial⟩ ?_
        intro f14 s14 W14 hB14
        have fB14 := hB14.f fB8
        have z14 := hB14.below.size
        have b14_0 := hB14.b b8_0
        have b14_1 := hB14.b b8_1
        have b14_2 := hB14.b b8_2
        have b14_3 := hB14.b b8_3
        have q46' := (OwnR.below q40' hB14.below)
        have q47' := (StabX.below hJs q41' hB14.below)
        have q48' := (MarksOk.below q42' hB14.below)
        have q49' := (Nat.le_trans q43' (Below.size hB14.below))
        have q50' := (LsR.below q44' hB14.below)
        have q51' := (OwnR.below q45' hB14.below)
        obtain ⟨b52', r14_4, q53', hbwl_⟩ := hB14.is 4
        refine hK14 _ _ ?_
        generalize hg14 : ov [(31, 0), (32, 1), (33, 2), (34, 3), (35, 4)] f14 g8 = g14
        have k14_0 := kt hg14 0 k8_0
        have k14_1 := kt hg14 1 k8_1
        have k14_2 := kt hg14 2 k8_2
        have k14_4 := kt hg14 4 k8_4
        have k14_5 := kt hg14 5 k8_5
        have k14_35 := kt hg14 35 r14_4
        refine wp_block ?_
        have hga4_ : ga_ ≠ (s1 2) := ownN_ne (.inr ⟨_, rfl, q46'⟩) b14_2 (by decide) _ rfl
        have hgag_ : ga_ ≠ gs := ownR_neT q46' q51' (by decide)
        have hgal_ := q46'.2.1
        have hgsl_ := q51'.2.1
        have hbwt_ := ltb q53'
        have hgav_ := q46'.1
        have hv1W_ := q49'
        obtain ⟨VV, hV⟩ : ∃ V, W14.heap.size = V := ⟨_, rfl⟩
        have hVw_ : w.heap.size ≤ W14.heap.size := Below.size fB14
        obtain ⟨G0, hG0⟩ : ∃ G : Nat → Prop, G = fun b => b = (s1 2) ∨ b = gs := ⟨_, rfl⟩
        obtain ⟨PP, hP⟩ : ∃ P : Nat → (Nat → Prop) → World → Prop, P = fun (i : Nat) (G_ : Nat → Prop) (W_ : World) => ∃ (Ls : List (List Int)) (cs' : List Value) (g_ c_ : Nat), W_.heap[(s1 2)]? = some (.cells #[.slice (some ⟨g_, 0, none⟩) (Ls.length) c_] 26 (0, 0)) ∧ OwnR 25 1 w.heap.size Ls.length cs' g_ c_ W_ ∧ LsR v1.heap.size Ls cs' W_ ∧ v1.heap.size ≤ g_ ∧ (g_ = gs ∨ VV ≤ g_) ∧ AllG n many Ls ∧ muL n many Ls ≤ muL n many L0 + i * (fM n (many - l0.length - 1)) ∧ ∀ b, G_ b ↔ b = (s1 2) ∨ b = g_ := ⟨_, rfl⟩
        obtain ⟨PS, hPS⟩ : ∃ P : (Nat → Prop) → World → Prop, P = fun (G_ : Nat → Prop) (W_ : World) => False := ⟨_, rfl⟩
        obtain ⟨AA, hA⟩ : ∃ A : Nat → (Nat → Prop) → Act → World → Prop, A = fun (j : Nat) (G_ : Nat → Prop) (a' : Act) (W_ : World) => ∃ g' : Nat → Value, a' = fr 50 g' ∧ g' 0 = .func (.yield l) #[] #[] ∧ g' 1 = .pointer (some ⟨bm, 0, none⟩) ∧ g' 2 = .pointer (some ⟨bp, 0, none⟩) ∧ g' 4 = .pointer (some ⟨(s1 2), 0, none⟩) ∧ g' 5 = .pointer (some ⟨(s4 6), 0, none⟩) ∧ ∃ u : Nat, j + u + 1 = n ∧ g' 6 = .int .i64 (u : Int) := ⟨_, rfl⟩
        refine (wpIn_wide (n := 10)).1 (range_gn (n := 10) (gf := 125) (rcv := #[]) (lb := #[.pointer (some ⟨b52', 0, none⟩)]) (show (fr 50 g14).eval _ = _ from (fr_eval rfl).trans k14_35) (enters_of Try.func125 (by kernel_rfl) rfl) (fun i => i < n) (fun i => i = n) (fun i _ v _ => ∃ u : Nat, i + u + 1 = n ∧ v = #[.int .i64 (u : Int), .agg #[.int .i64 (ss u).1, .int .i64 (ss u).2]]) (fun i G v W h => by obtain ⟨u, _, rfl⟩ := h; rfl) (RgI w W14 G0 PP) ?hIst (RgS w W14 G0 PS) ?hSst G0 ?hG0b ?hit ?h0 AA ?hAp ?hassign ?hbody ?hdone ?hstop)
        case hIst =>
          refine rgI_stabN hVw_ ?_
          subst hP hG0
          rintro i G W_ W' ⟨Ls, cs', g_, c_, h1, h2, h3, h4⟩ hk
          have hc_ : ∀ b cur T m, W_.heap[b]? = some (.cells cur T m) → ¬ NoCells W_ b := fun b cur T m hb e => e _ _ _ hb
          exact ⟨Ls, cs', g_, c_, hk.block _ _ (fun e => hc_ _ _ _ _ h1 e.2.2) h1, OwnR.sameT h2 hk.size (fun o ho => by obtain ⟨cur, hcu⟩ := h2.blkT; exact hk.block _ _ (fun e => hc_ _ _ _ _ hcu e.2.2) ho), LsR.keep h3 hk (fun b e _ cur hcu => hc_ _ _ _ _ hcu e.2.2), h4⟩
        case hSst =>
          refine rgS_stab hVw_ ?_
          subst hPS hG0
          rintro G W_ W' h hk
          exact h.elim
        case hG0b => subst hG0; intro b hb; rcases hb with hb | hb; rw [hb]; exact ltb b14_2; rw [hb]; exact hgsl_
        case hit =>
          intro l' W1 J' S' hl hl1 hb1 hJ's hS's hJ'I hS'I hY' hJ0'
          have hz1 := hb1.size
          have hJG' : ∀ i G W_, J' i G W_ → ∀ b, G b → (w.heap.size ≤ b ∧ b < W_.heap.size) ∧ (b = (s1 2) ∨ b = gs ∨ VV ≤ b) := fun i G W_ h => by
            have h_ := hJ'I i G W_ h
            subst hP hG0
            obtain ⟨-, -, Ls, cs', g_, c_, h1, h2, h3, h4, h5, h6, h7, h8⟩ := h_
            intro b hb
            rcases (h8 b).1 hb with e | e <;> rw [e]
            · exact ⟨⟨by omega, ltb h1⟩, .inl rfl⟩
            · exact ⟨⟨h2.1, h2.2.1⟩, .inr h5⟩
          have fB1' := fB14.trans (hb1.mono (Below.size fB14))
          refine backward_it ss ra n c hO gn b52' l' G0 J' S' W1 fB1' (bwb q53' hb1) hJ's hS's (fun i G W_ h b hb => (hJG' i G W_ h b hb).1) (fun i G W_ h hb => by have h_ := (hJG' i G W_ h _ hb).2; omega) (fun i G W_ hi hj z u hu => hY' i G W_ _ hi hj z ⟨u, hu, rfl⟩) hJ0'
        case h0 =>
          subst hP hG0
          exact ⟨fB14, KeepP.refl _ _, L0, _, gs, cq_, b14_2, q51', q50', lk2, .inl rfl, hAG_.1, Nat.le_add_right _ _, fun b => Iff.rfl⟩
        case hAp =>
          subst hA
          intro j G_ a' X r o hl h
          exact h
        case hassign =>
          intro l' j G_ X v K hj hIX hsz hE hK
          obtain ⟨u, hju_, rfl⟩ := hE
          have e : ({ tmps := ((#[36, 37] : Array Tmp).zip #[.int .i64 ((u : Int)), .agg #[.int .i64 ((ss u).1), .int .i64 ((ss u).2)]]).foldl (fun t (p, v) => t.setIfInBounds p v) (fr 50 g14).tmps, defers := [] } : Act) = fr 50 (upd (upd g14 36 (.int .i64 ((u : Int)))) 37 (.agg #[.int .i64 ((ss u).1), .int .i64 ((ss u).2)])) := by
            rw [foldl_2r, ← fr_set, ← fr_set]
          rw [show (frD (Ds.map mkD) 50 g14 : Act).tmps = (fr 50 g14).tmps from rfl, e]
          obtain ⟨g7, hg7⟩ : ∃ g7, (upd (upd g14 36 (.int .i64 ((u : Int)))) 37 (.agg #[.int .i64 ((ss u).1), .int .i64 ((ss u).2)])) = g7 := ⟨_, rfl⟩
          rw [hg7]
          have k7_0 : g7 0 = .func (.yield l) #[] #[] := (congrFun hg7.symm 0).trans ((upd_other _ _ (by decide)).trans ((upd_other _ _ (by decide)).trans k14_0))
          have k7_1 : g7 1 = .pointer (some ⟨bm, 0, none⟩) := (congrFun hg7.symm 1).trans ((upd_other _ _ (by decide)).trans ((upd_other _ _ (by decide)).trans k14_1))
          have k7_2 : g7 2 = .pointer (some ⟨bp, 0, none⟩) := (congrFun hg7.symm 2).trans ((upd_other _ _ (by decide)).trans ((upd_other _ _ (by decide)).trans k14_2))
          have k7_4 : g7 4 = .pointer (some ⟨(s1 2), 0, none⟩) := (congrFun hg7.symm 4).trans ((upd_other _ _ (by decide)).trans ((upd_other _ _ (by decide)).trans k14_4))
          have k7_5 : g7 5 = .pointer (some ⟨(s4 6), 0, none⟩) := (congrFun hg7.symm 5).trans ((upd_other _ _ (by decide)).trans ((upd_other _ _ (by decide)).trans k14_5))
          have k7_36 : g7 36 = .int .i64 ((u : Int)) := (congrFun hg7.symm 36).trans ((upd_other _ _ (by decide)).trans (upd_same _ _ _))
          have k7_37 : g7 37 = .agg #[.int .i64 ((ss u).1), .int .i64 ((ss u).2)] := kt hg7 37 (upd_same _ _ _)
          have hbX : Below w.heap.size w X := hIX.1
          have hzX : W14.heap.size ≤ X.heap.size := hIX.2.1.size
          refine region_doI (by repeat (first | exact noOut_false | refine noOut_then ?_ | refine noOut_block ?_)) (by kernel_rfl) 1 [(6, 0)] [[]] (rel [is (.int .i64 ((u : Int)))]) (by kernel_rfl) (by kernel_rfl) (by kernel_rfl) (by kernel_rfl)
            ⟨is_k, trivial⟩
            ⟨fun f s W x y z B C a => opv rfl rfl (by simp [go_sem, a.e 36 k7_36]) rfl, trivial⟩ ?_
          intro f21 s21 W21 hB21
          have fB21 := hB21.f hbX
          have z21 := hB21.below.size
          have q54' := (bwt (Below.refl X.heap.size X) hB21.below)
          refine wpe ?_
          generalize hg21 : ov [(6, 0)] f21 g7 = g21
          have k21_0 := kt hg21 0 k7_0
          have k21_1 := kt hg21 1 k7_1
          have k21_2 := kt hg21 2 k7_2
          have k21_4 := kt hg21 4 k7_4
          have k21_5 := kt hg21 5 k7_5
          have k21_6 := kt hg21 6 (hB21.is 0)
          have hbe_ := q54'
          refine hK _ _ hbe_ ?_
          subst hA
          exact ⟨_, rfl, k21_0, k21_1, k21_2, k21_4, k21_5, u, hju_, k21_6⟩
        case hbody =>
          intro l' j G_ a' X hj hIX hAX
          have hIX' := hIX
          subst hA
          obtain ⟨h1X, h2X, hPX⟩ := hIX
          obtain ⟨g7, rfl, k7_0, k7_1, k7_2, k7_4, k7_5, u, hju_, k7_6⟩ := hAX
          have hzX := h2X.size
          have cb0 : X.heap[bm]? = some (.cells #[.int .i64 ((many : Int))] 3 (0, 0)) := h2X.block _ _ (by subst hG0; intro e_; rcases e_ with (e_ | e_) | e_ <;> omega) b14_0
          have cl0 := ltb cb0
          have cb1 : X.heap[bp]? = some (.cells #[.int .i64 nu, .int .i64 de, .int .i64 tl, .slice ra n c, .slice qa m cq] 130 (0, 0)) := h2X.block _ _ (by subst hG0; intro e_; rcases e_ with (e_ | e_) | e_ <;> omega) b14_1
          have cl1 := ltb cb1
          have cb3 : X.heap[(s4 6)]? = some (.cells #[.slice (some ⟨ga_, 0, none⟩) (l0.length) ca_] 25 (0, 0)) := h2X.block _ _ (by subst hG0; intro e_; rcases e_ with (e_ | e_) | e_ <;> omega) b14_3
          have cl3 := ltb cb3
          subst hP
          obtain ⟨Ls, cs', g_, c_, h1P, h2P, h3P, h4P, h5P, h6P, h7P, h8X⟩ := hPX
          have hownX_ : OwnR 3 1 v1.heap.size l0.length (iis l0) ga_ ca_ X := OwnR.sameT q46' h2X.size (fun o ho => h2X.block _ _ (by subst hG0; intro e_; rcases e_ with (e_ | e_) | e_ <;> omega) ho)
          have hjn_ : j < n := hj
          have hun_ : u < n := by omega
          have hl4_ := ltb h1P
          have hgX_ := h2P.2.1
          have hlenX_ := len_mu n many Ls
          have hjF_ := Nat.mul_le_mul_right (fM n (many - l0.length - 1)) (show j ≤ n by omega)
          have hGm_ : ∀ b, (b = (s1 2) ∨ b = g_) → G_ b := fun b hb => (h8X b).2 hb
          refine wpIn_block ?_
          refine wpIn_seq_k fun K1 hK1 => ?_
          refine region_doI (by repeat (first | refine noOut_then ?_ | refine noOut_block ?_ | exact fun ⟨_, _, e⟩ => e.elim (fun e => nomatch e.1) (fun e => nomatch e.1))) (by kernel_rfl) 4 [(38, 0), (39, 1), (40, 2), (41, 3)] [[], [], [0, 1], [0, 1, 2]] (rel [is (.slice (some ⟨ga_, 0, none⟩) (l0.length) ca_),
      is (.int .i64 ((u : Int))),
      is (.bool (l0.contains (u : Int))),
      is (.bool (!(l0.contains (u : Int))))]) (by kernel_rfl) (by kernel_rfl) (by kernel_rfl) (by kernel_rfl)
            ⟨is_k, is_k, is_k, is_k, trivial⟩
            ⟨fun f s W x y z B C a => opv rfl rfl (by simp [go_sem, a.e 5 k7_5, cb cb3 x 0]) rfl,
    fun f s W x y z B C a => opv rfl rfl (by simp [go_sem, a.e 6 k7_6]) rfl,
    fun f s W x y z B C a => opc (args := #[.slice (some ⟨ga_, 0, none⟩) (l0.length) ca_, .int .i64 ((u : Int))]) rfl rfl (by simp [go_sem, a.e 38 (y 0 rfl), a.e 39 (y 1 rfl)]) (contains_all ((OwnR.below hownX_ x)) (by omega)),
    fun f s W x y z B C a => opv rfl rfl (by simp [go_sem, a.e 40 (y 2 rfl)]) rfl, trivial⟩ ?_
          intro f61 s61 W61 hB61
          have fB61 := hB61.f h1X
          have z61 := hB61.below.size
          have b61_2 := hB61.b cb3
          have b61_3 := hB61.b h1P
          have q55' := (KeepP.trans (KeepP.refl G_ X) (KeepP.of_below hB61.below))
          have q56' := (OwnR.below h2P hB61.below)
          have q57' := (LsR.below h3P hB61.below)
          have q58' := (OwnR.below hownX_ hB61.below)
          refine hK1 _ _ ?_
          generalize hg61 : ov [(38, 0), (39, 1), (40, 2), (41, 3)] f61 g7 = g61
          have k61_4 := kt hg61 4 k7_4
          have k61_5 := kt hg61 5 k7_5
          have k61_6 := kt hg61 6 k7_6
          have k61_41 := kt hg61 41 (hB61.is 3)
          refine wpIn_cond_split (t := !(l0.contains (u : Int))) ((fr_eval rfl).trans k61_41) (fun hc2 => ?_) (fun hc2 => ?_)
          ·
            have hc2' := hc2; try simp only [ba] at hc2'
            have hnc_ : l0.contains (u : Int) = false := by simpa using hc2
            refine region_doLI (by repeat (first | refine noOut_then ?_ | refine noOut_block ?_ | exact fun ⟨_, _, e⟩ => e.elim (fun e => nomatch e.1) (fun e => nomatch e.1))) (by kernel_rfl) (LeP (W61.heap.size) l0.length (u : Int)) LeP.refl LeP.drew LeP.trans (fun _ _ h => h.size) 7 [(42, 0), (43, 1), (44, 2), (45, 3), (46, 4), (47, 5), (48, 6), (49, 7)] [[], [], [1], [], [3], [1, 2, 3, 4], [1, 2, 3, 4, 5], [0, 1, 2, 3, 4, 5, 6], [0, 1, 2, 3, 4, 5, 6, 7]] (rel [is (.slice (some ⟨g_, 0, none⟩) (Ls.length) c_),
      is (.slice (some ⟨ga_, 0, none⟩) (l0.length) ca_),
      fun v s W => ∃ g c, v = .slice (some ⟨g, 0, none⟩) l0.length c ∧ OwnR 3 1 (W61.heap.size) l0.length (iis l0) g c W,
      is (.int .i64 (u : Int)),
      row 4 1 #[.int .i64 (u : Int)] 3,
      fun v s W => ∃ g c, v = .slice (some ⟨g, 0, none⟩) (l0.length + 1) c ∧ OwnR 3 1 (W61.heap.size) (l0.length + 1) (iis (l0 ++ [(u : Int)])) g c W,
      fun v s W => ∃ g c, v = .slice (some ⟨(s 6), 0, none⟩) 1 1 ∧ W.heap[(s 6)]? = some (.cells #[.slice (some ⟨g, 0, none⟩) (l0.length + 1) c] 25 (0, 0)) ∧ OwnR 3 1 (W61.heap.size) (l0.length + 1) (iis (l0 ++ [(u : Int)])) g c W]) (by kernel_rfl) (by kernel_rfl) (by kernel_rfl) (by kernel_rfl)
              ⟨is_kl, is_kl, ⟨fun v k W W' hb h => by obtain ⟨g, c, e, h1⟩ := h; exact ⟨g, c, e, LeP.own hb h1⟩, fun _ _ _ _ _ h => h⟩, is_kl, ⟨fun v k W W' hb h => ⟨h.1, LeP.one hb h.2⟩, fun v s s' W e h => by have h_ := e 4 (by simp); have h2 : v = .slice (some ⟨s 4, 0, none⟩) 1 1 ∧ W.heap[s 4]? = some (.cells #[.int .i64 (u : Int)] 3 (0, 0)) := h; rw [h_] at h2; exact h2⟩, ⟨fun v k W W' hb h => by obtain ⟨g, c, e, h1⟩ := h; exact ⟨g, c, e, LeP.own1 hb rfl h1⟩, fun _ _ _ _ _ h => h⟩, ⟨fun v k W W' hb h => by obtain ⟨g, c, e, h1, h2⟩ := h; exact ⟨g, c, e, LeP.oth hb h1, LeP.own1 hb rfl h2⟩, fun v s s' W e h => by have h_ := e 6 (by simp); have h2 : ∃ g c, v = .slice (some ⟨(s 6), 0, none⟩) 1 1 ∧ W.heap[(s 6)]? = some (.cells #[.slice (some ⟨g, 0, none⟩) (l0.length + 1) c] 25 (0, 0)) ∧ OwnR 3 1 (W61.heap.size) (l0.length + 1) (iis (l0 ++ [(u : Int)])) g c W := h; rw [h_] at h2; exact h2⟩, trivial⟩
              ⟨fun f s W x y z B C a => OpDo.l LeP.of_below (opv rfl rfl (by simp [go_sem, a.e 4 k61_4, cl (LeP.oth x b61_3) 0]) rfl),
    fun f s W x y z B C a => OpDo.l LeP.of_below (opv rfl rfl (by simp [go_sem, a.e 5 k61_5, cl (LeP.oth x b61_2) 0]) rfl),
    fun f s W x y z B C a => OpDo.l LeP.of_below (opd rfl rfl (by simp [go_sem, a.e 43 (y 1 rfl)]) (clone_all (OwnR.sameT q58' x.size (fun o ho => LeP.old x ho q58'.2.1)) (by omega)) (fun e W' h => by obtain ⟨g', c', e1, h1, hb⟩ := h; exact ⟨_, e1, hb, ⟨g', c', rfl, OwnR.lowT h1 x.size⟩⟩)),
    fun f s W x y z B C a => OpDo.l LeP.of_below (opv rfl rfl (by simp [go_sem, a.e 6 k61_6]) rfl),
    fun f s W x y z B C a => OpDo.l LeP.of_below (opr rfl rfl (by simp [go_sem, a.e 45 (y 3 rfl)])),
    fun f s W x y z B C a => by obtain ⟨g2, c2, d2, ho2⟩ := y 2 rfl; obtain ⟨v_, W_, r_, le_, g3, c3, e3, ho3⟩ := app_own 25 rfl (by omega) ho2 x.size (y 4 rfl).2; exact opDoL_value rfl rfl (run_appendOp (a.v 44 d2) (a.v 46 (y 4 rfl).1) r_) le_ ⟨g3, c3, e3, ho3⟩,
    fun f s W x y z B C a => by obtain ⟨g3, c3, d3, ho3⟩ := y 5 rfl; exact OpDo.l LeP.of_below (opDo_value (v := .slice (some ⟨W.heap.size, 0, none⟩) 1 1) (W' := W.alloc (.cells #[.slice (some ⟨g3, 0, none⟩) (l0.length + 1) c3] 25 (0, 0))) rfl rfl (by simp [go_sem, a.e 47 d3]) (balloc1 _ _) ⟨g3, c3, by rw [upd_at], by rw [upd_at]; exact blk_new rfl, OwnR.below ho3 (balloc1 _ _)⟩), trivial⟩ ?_
            intro f62 s62 W62 hB62
            have le62 := hB62.le
            have z62 : W61.heap.size ≤ W62.heap.size := le62.size
            have fB62 : Below w.heap.size w W62 := Below.trans fB61 (LeP.below le62 (Below.size fB61) (Below.size fB61))
            have b62_3 := LeP.old le62 b61_3 (ltb b61_3)
            have q59' : KeepP G_ X W62 := ⟨le62.os.trans q55'.os, le62.tape.trans q55'.tape, le62.output.trans q55'.output, Nat.le_trans q55'.size le62.size, fun k o hk hx => (fun hy => LeP.old le62 hy (Array.getElem?_eq_some_iff.1 hy).1) (q55'.block k o hk hx)⟩
            have q60' := OwnR.sameT q56' le62.size (fun o ho => LeP.old le62 ho q56'.2.1)
            have q61' := LsR.keep q57' (LeP.keep le62) (fun b hb _ cur hc => by have h_ := ltb hc; omega)
            have q62' := OwnR.sameT q58' le62.size (fun o ho => LeP.old le62 ho q58'.2.1)
            obtain ⟨g9_62, c9_62, e9_62, x9_62, o9_62⟩ := hB62.is 6
            generalize hg62 : ov [(42, 0), (43, 1), (44, 2), (45, 3), (46, 4), (47, 5), (48, 6), (49, 7)] f62 g61 = g62
            have k62_42 := kt hg62 42 (hB62.is 0)
            have k62_48 := kt hg62 48 e9_62
            have hle63_ := ownR_len q60'
            obtain ⟨ga63, ca63, W63, ra63, ow63, ot63, z63, gg63, fB63⟩ := growN_tail 26 26 25 1 24 _ (by kernel_rfl) infoL rfl (cs' ++ [.slice (some ⟨g9_62, 0, none⟩) ((l0.length + 1)) (c9_62)]) (Ls.length + 1) (off := 0) (k := 1) (c' := 1) [.slice (some ⟨g9_62, 0, none⟩) ((l0.length + 1)) (c9_62)] fB62 (.inr ⟨_, rfl, q60'⟩ : OwnN 25 1 w.heap.size Ls.length cs' (some ⟨g_, 0, none⟩) c_ W62) rfl rfl rfl rfl (cells_at x9_62) (by omega)
            refine tail_value2 (o := _) rfl rfl rfl (run_appendOp (fr_ev k62_42) (fr_ev k62_48) ra63) ?_
            have b63_3 := ot63 _ _ (ownN_ne (.inr ⟨_, rfl, q60'⟩ : OwnN 25 1 w.heap.size Ls.length cs' (some ⟨g_, 0, none⟩) c_ W62) b62_3 (by decide)) b62_3
            have q63' : KeepP G_ X W63 := KeepP.trans q59' ⟨fB63.os.trans fB62.os.symm, fB63.tape.trans fB62.tape.symm, fB63.output.trans fB62.output.symm, z63, fun k o hk hx => ot63 _ _ (fun q_ e_ h_ => hk ((h8X _).2 (.inr (by cases e_; exact h_.symm)))) hx⟩
            have hl9_63 := LsR.push' (LsR.otN q61' (.inr ⟨_, rfl, q60'⟩ : OwnN 25 1 w.heap.size Ls.length cs' (some ⟨g_, 0, none⟩) c_ W62) ot63 z63 (by decide)) (k := l0.length + 1) (xs := l0 ++ [(u : Int)]) (by simp) (OwnR.lowT (OwnR.otN o9_62 (.inr ⟨_, rfl, q60'⟩ : OwnN 25 1 w.heap.size Ls.length cs' (some ⟨g_, 0, none⟩) c_ W62) ot63 z63 (by decide)) (by omega))
            generalize hg63 : upd g62 49 (.slice (some ⟨ga63, 0, none⟩) ((Ls.length + 1)) (ca63)) = g63
            have k63_4 := ku hg63 4 (kt hg62 4 k61_4)
            have k63_49 := kt hg63 49 (upd_same _ _ _)
            obtain ⟨W64, hW64⟩ : ∃ W', W' = W63.setRow (s1 2) #[.slice (some ⟨ga63, 0, none⟩) ((Ls.length + 1)) (ca63)] := ⟨_, rfl⟩
            refine tsk (o := _) rfl ⟨rfl, rfl⟩ (run_seg hW64 (fr_ev k63_4) (fr_ev k63_49) b63_3 rfl rfl rfl rfl) ?_
            obtain ⟨fB64, nb64, ot64, z64⟩ := sgf hW64 fB63 b63_3 (by omega)
            have q64' := (KeepP.trans q63' (keepX_P (keepX_row hW64) (by first | exact hGm_ _ rfl | exact hGm_ _ (.inl rfl) | exact hGm_ _ (.inr (.inl rfl)) | exact hGm_ _ (.inr (.inr rfl)) | omega)))
            have q65' := (LsR.keep hl9_63 (keepX_P (S := fun k_ => k_ = (s1 2)) (keepX_row hW64) rfl) (fun b_ e_ _ cur hc => by rw [show b_ = _ from e_, b63_3] at hc; exact absurd (Obj.cells.inj (Option.some.inj hc)).2.1 (by decide)))
            clear hW64
            have q66' := (OwnR.other ow63 ot64 (ownN_ne (.inr ⟨_, rfl, ow63⟩) b63_3 (by decide) _ rfl) z64)
            refine wpe ?_
            refine ibn ?_
            have elz_ : (l0 ++ [(u : Int)]).length = l0.length + 1 := by simp
            have eLz_ : (Ls ++ [l0 ++ [(u : Int)]]).length = Ls.length + 1 := by simp
            have hmz_ := muL_snoc n many (l0 ++ [(u : Int)]) Ls
            rw [elz_, show many - (l0.length + 1) = many - l0.length - 1 by omega] at hmz_
            have hjs_ : (j + 1) * (fM n (many - l0.length - 1)) = j * (fM n (many - l0.length - 1)) + (fM n (many - l0.length - 1)) := by rw [Nat.add_mul, Nat.one_mul]
            have hAz_ := AllG.snoc h6P (l := l0 ++ [(u : Int)]) ⟨GoodL.snoc hgl_ ⟨by omega, by omega⟩ hnc_, by rw [elz_]; omega⟩
            have hgz_ : ga63 = gs ∨ VV ≤ ga63 := by rcases gg63 with e | e; cases e; exact h5P; exact .inr (by omega)
            have hvz_ : v1.heap.size ≤ ga63 := by rcases hgz_ with e | e <;> omega
            have hgGz_ : ∀ b, (b = (s1 2) ∨ b = ga63) → G_ b ∨ X.heap.size ≤ b := fun b hb => by
              rcases hb with hb | hb
              · exact .inl ((h8X b).2 (.inl hb))
              · rcases gg63 with e | e
                · cases e; exact .inl ((h8X b).2 (.inr hb))
                · exact .inr (by omega)
            have hb4z_ := nb64
            have hstz_ := q66'
            rw [← eLz_] at hb4z_ hstz_
            exact .inl ⟨rfl, fun b => b = (s1 2) ∨ b = ga63, ⟨fB64, h2X.trans (KeepP.more q64' fun b hb => (by subst hG0; rcases (h8X b).1 hb with e | e; exact .inl (.inl e); rcases h5P with e2 | e2; exact .inl (.inr (e.trans e2)); exact .inr (by omega))), (Ls ++ [l0 ++ [(u : Int)]]), _, ga63, _, hb4z_, hstz_, q65', hvz_, hgz_, hAz_, by omega, fun b => Iff.rfl⟩, q64', hgGz_⟩
          ·
            have hc2' := hc2; try simp only [ba] at hc2'
            refine wpIn_skip ?_
            refine ibn ?_
            exact .inl ⟨rfl, G_, ⟨fB61, h2X.trans (KeepP.more q55' fun b hb => (by subst hG0; rcases (h8X b).1 hb with e | e; exact .inl (.inl e); rcases h5P with e2 | e2; exact .inl (.inr (e.trans e2)); exact .inr (by omega))), Ls, cs', g_, c_, b61_3, q56', q57', h4P, h5P, h6P, Nat.le_trans h7P (Nat.add_le_add_left (Nat.mul_le_mul_right _ (Nat.le_succ j)) _), h8X⟩, q55', fun b hb => .inl hb⟩
        case hstop =>
          intro D G' Z hD hnD hIZ hdZ
          obtain ⟨h1Z, h2Z, hPZ⟩ := hIZ
          rw [hPS] at hPZ; exact hPZ.elim
        case hdone =>
          intro D i' G' Z hD hnD hfin hIZ hdZ
          obtain ⟨h1Z, h2Z, hPZ⟩ := hIZ
          have eD : ({ (frD (Ds.map mkD) 50 g14) with defers := { target := .collected D, args := #[] } :: (frD (Ds.map mkD) 50 g14).defers } : Act) = frD (mkD D :: (Ds.map mkD)) 50 g14 := rfl
          rw [eD]
          have hzZ := h2Z.size
          have cz0 : Z.heap[bm]? = some (.cells #[.int .i64 ((many : Int))] 3 (0, 0)) := h2Z.block _ _ (by subst hG0; intro e_; rcases e_ with (e_ | e_) | e_ <;> omega) b14_0
          have cz1 : Z.heap[bp]? = some (.cells #[.int .i64 nu, .int .i64 de, .int .i64 tl, .slice ra n c, .slice qa m cq] 130 (0, 0)) := h2Z.block _ _ (by subst hG0; intro e_; rcases e_ with (e_ | e_) | e_ <;> omega) b14_1
          have cz3 : Z.heap[(s4 6)]? = some (.cells #[.slice (some ⟨ga_, 0, none⟩) (l0.length) ca_] 25 (0, 0)) := h2Z.block _ _ (by subst hG0; intro e_; rcases e_ with (e_ | e_) | e_ <;> omega) b14_3
          subst hP
          obtain ⟨LZ, csZ, gZ, cZ, h1P, h2P, h3P, hvgZ_, h5P, hAGZ_, h7P, h8Z⟩ := hPZ
          have him_ : i' = n := hfin
          subst him_
          have hGlo_ : ∀ b, (G0 b ∨ W14.heap.size ≤ b) → v1.heap.size ≤ b := fun b hb => by subst hG0; rcases hb with (hb | hb) | hb <;> omega
          have hJZ_ := hJs _ _ _ _ q47' (h2Z.more fun b hb => .inr ⟨hGlo_ b hb, fun hg => by have h_ := hGb _ _ _ q47' b hg; have h2_ := hGlo_ b hb; omega⟩)
          have hMZ_ : MarksOk Z (D :: Ds) := by
            have hM0_ := q48'
            have hMz_ : MarksOk Z Ds := ⟨hM0_.1, fun E hE => h2Z.block _ _ (fun e => by subst hG0; rcases e with (e | e) | e; (exact hM0_.ne b14_2 (e ▸ hE)); (obtain ⟨cu, hcu⟩ := OwnR.blkT q51'; exact hM0_.ne hcu (e ▸ hE)); (have := (Array.getElem?_eq_some_iff.1 (hM0_.2 E hE)).1; omega)) (hM0_.2 E hE)⟩
            refine ⟨List.pairwise_cons.2 ⟨fun E hE e => ?_, hM0_.1⟩, fun E hE => ?_⟩
            · have := (Array.getElem?_eq_some_iff.1 (hM0_.2 E hE)).1; omega
            · rcases List.mem_cons.1 hE with rfl | hE
              · exact hdZ
              · exact hMz_.2 E hE
          have hDsZ_ : ∀ E ∈ (D :: Ds), v1.heap.size ≤ E := fun E hE => by rcases List.mem_cons.1 hE with rfl | hE; omega; exact hDs_ E hE
          refine ibn ?_
          refine ibn ?_
          refine then_normal ?_
          exact ⟨_, by omega, (D :: Ds), g14, rfl, i_, G, LZ.length, LZ, csZ, gZ, cZ, rfl, k14_0, k14_1, k14_2, k14_4, h1Z, (by omega), cz0, cz1, h1P, hJZ_, h2P, h3P, hMZ_, (show v1.heap.size ≤ Z.heap.size by omega), rfl, hAGZ_, hvgZ_, hDsZ_, (by omega)⟩
  ·
    have hc4' := hc4; try simp only [ba] at hc4'
    refine wp_exit ?_
    refine then_exit ?_
    refine then_exit ?_
    refine inBlock_at ?_
    refine leave_marks (v := .tuple #[]) (Ds := Ds) (.inl rfl) rfl rfl q14' (fun W' => by simp [results, Try.results82, go_sem]) fun W' hk => ⟨⟨_, rfl⟩, .inl ⟨_, _, trivial, hJs _ _ _ _ q11' (hk.more fun b hb => .inr ⟨hDs_ b hb, fun hg => by have h_ := hGb _ _ _ q11' b hg; have h2_ := hDs_ b hb; omega⟩)⟩⟩
end Go.Proofs.Ytcgccflcjejlhaa
