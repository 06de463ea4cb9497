/- Part of the proof: what the claim leans on. -/
import Derived.Test.YtnhipdbdolabkaaWAK
import Derived.Test.YtnhipdbdolabkaaWAI
import Derived.Test.YtnhipdbdolabkaaWAG
set_option linter.unusedSimpArgs false
set_option linter.unusedVariables false
namespace Go.Proofs.Ytnhipdbdolabkaa
open Go.RowKit
theorem infoI : (Try.prog.info? 3).map (fun i => (i.zero, i.size, i.bytes)) = some (some (.int .i64 0), 1, 8) := by kernel_rfl
theorem ownN_box {W : World} {b B : Nat} {x : Int} (h : W.heap[b]? = some (.cells #[.int .i64 x] 3 (0, 0))) (hb : B ≤ b) : OwnN 3 1 B 1 (iis [x]) (some ⟨b, 0, none⟩) 1 W := .inr ⟨b, rfl, ownI_lit (xs := [x]) h hb rfl (by decide)⟩
theorem atF_bd {os : Nat → To} {xs : List Int} {a0 : Int} (ha : 0 ≤ a0 ∧ a0 ≤ 3000) {n : Nat} (ho : ∀ i, i < n → ToIn (os i)) (hx : ∀ x ∈ xs, 0 ≤ x ∧ x ≤ 4) : ∀ k, k ≤ n → 0 ≤ atF os xs a0 k ∧ atF os xs a0 k ≤ 3000 + 12000 * (k : Int)
  | 0, _ => by show 0 ≤ a0 ∧ a0 ≤ 3000 + 12000 * ((0 : Nat) : Int); omega
  | k + 1, hk => by
    have h := atF_bd ha ho hx k (by omega)
    have hm := tr_mul (getD_bd hx (by decide) k) (show 0 ≤ (os k).wd ∧ (os k).wd ≤ 3000 by have := (ho k (by omega)).wd; omega)
    show 0 ≤ atF os xs a0 k + elT xs k * (os k).wd ∧ atF os xs a0 k + elT xs k * (os k).wd ≤ 3000 + 12000 * ((k + 1 : Nat) : Int)
    omega
/-- Where the knives stand. -/
def IsKn (L : List Int) (v : Value) (W : World) : Prop := ∃ g n c, v = .slice (some ⟨g, 0, none⟩) n c ∧ n = L.length ∧ OwnI 0 L g c W
theorem kn_is {B n g c : Nat} {L : List Int} {W : World} (h : OwnR 3 1 B n (iis L) g c W) : IsKn L (.slice (some ⟨g, 0, none⟩) n c) W := by
  have hn : n = L.length := by
    have := h.2.2.1
    simpa [iis] using this.symm
  subst hn
  exact ⟨g, _, c, rfl, rfl, OwnI.low (B := B) h (Nat.zero_le _)⟩
set_option maxRecDepth 100000 in
set_option maxHeartbeats 8000000 in
theorem tr_Knives (p : Tp) (os : Nat → To) (bo oo no co : Nat) (ax : Option Addr) (nx cx : Nat) (xs : List Int) (a0 : Int) (w : World) (hO : OrdR w bo oo no os) (hp : TpIn p) (ho : ∀ i, i < no → ToIn (os i)) (gno : no ≤ 4) (hX : Ii w ax nx cx xs) (gxs : ∀ x ∈ xs, 0 ≤ x ∧ x ≤ 4) (gnx : nx = no) (hpat : patF p os xs no = true) (gl : 0 ≤ leftF p os xs no ∧ leftF p os xs no ≤ 3000) (ha0 : leftF p os xs no / 2 = a0) :
    Calls Try.prog 11 #[.agg #[.int .i64 p.wide, .int .i64 p.tlo, .int .i64 p.thi, .int .i64 p.webs], .slice (some ⟨bo, oo, none⟩) (no) (co), .slice (ax) (nx) (cx)] w (fun e w' => ∃ v, e = .returned (.tuple #[v, .int .i64 0]) ∧ IsKn (knF os xs a0 no) v w' ∧ Below w.heap.size w w') := by
  obtain ⟨bz, oz, hX_⟩ := hX.open
  have ga0 : 0 ≤ a0 ∧ a0 ≤ 3000 := by omega
  refine calls_fr Try.func11 Try.ntmps11 rfl rfl fun g hg => ?_
  have k0 : g 0 = .agg #[.int .i64 p.wide, .int .i64 p.tlo, .int .i64 p.thi, .int .i64 p.webs] := hg 0
  have k1 : g 1 = .slice (some ⟨bo, oo, none⟩) (no) (co) := hg 1
  have k2 : g 2 = .slice (ax) (nx) (cx) := hg 2
  clear hg
  have fB0 : Below w.heap.size w w := Below.refl _ _
  refine wp_seq_k fun K1 hK1 => ?_
  refine region_dk 3 [(3, 0), (6, 1), (7, 2)] [[], [], [1]] (rel [bx 0 #[.int .i64 p.wide, .int .i64 p.tlo, .int .i64 p.thi, .int .i64 p.webs] 35,
      is (.slice (none) (0) (0)),
      is (.int .i64 0)])
    ⟨bx_k, is_k, is_k, trivial⟩
    ⟨fun f s W d j l m n c => opb rfl rfl (by simp [go_sem, c.e 0 k0]),
    fun f s W d j l m n c => opv rfl rfl (by simp [go_sem]) rfl,
    fun f s W d j l m n c => opv rfl rfl (by simp [go_sem]) rfl, trivial⟩ ?_
  intro f1 s1 W1 hB1 g1 hg1
  have fB1 := hB1.f fB0
  have z1 := hB1.below.size
  obtain ⟨r1_0, br1_0⟩ := hB1.is 0
  have lr1_0 := hB1.lr 0 br1_0
  refine hK1 _ _ ?_
  have k1_1 := kt hg1 1 k1
  have k1_2 := kt hg1 2 k2
  have k1_3 := kt hg1 3 r1_0
  have k1_6 := kt hg1 6 (hB1.is 1)
  have k1_7 := kt hg1 7 (hB1.is 2)
  refine wp_seq_k fun K2 hK2 => ?_
  refine region_dk 8 [(15, 0), (16, 1), (17, 2), (18, 3), (14, 4), (19, 5), (20, 6), (8, 7), (9, 9)] [[], [], [], [0, 1, 2], [0, 1, 2, 3], [0, 1, 2, 3, 4], [0, 1, 2, 3, 4], [], [0, 1, 2, 3, 4, 5, 7], [0, 1, 2, 3, 4, 5, 6, 7, 8]] (rel [is (.agg #[.int .i64 p.wide, .int .i64 p.tlo, .int .i64 p.thi, .int .i64 p.webs]),
      is (.slice (some ⟨bo, oo, none⟩) (no) (co)),
      is (.slice (ax) (nx) (cx)),
      is (.tuple #[.agg #[.int .i64 p.wide, .int .i64 p.tlo, .int .i64 p.thi, .int .i64 p.webs, .slice (some ⟨bo, oo, none⟩) (no) (co)], .int .i64 0]),
      is (.tuple #[.agg #[.int .i64 p.wide, .int .i64 p.tlo, .int .i64 p.thi, .int .i64 p.webs, .slice (some ⟨bo, oo, none⟩) (no) (co)], .int .i64 0]),
      is (.agg #[.int .i64 p.wide, .int .i64 p.tlo, .int .i64 p.thi, .int .i64 p.webs, .slice (some ⟨bo, oo, none⟩) (no) (co)]),
      is (.int .i64 0),
      bx 7 #[.int .i64 0, .int .i64 0, .int .i64 0, .int .i64 0, .slice (none) (0) (0)] 87])
    ⟨is_k, is_k, is_k, is_k, is_k, is_k, is_k, bx_k, trivial⟩
    ⟨fun f s W d j l m n c => opl rfl rfl rfl (c.v 3 k1_3) (blk_below br1_0 d) Try.underlying35 rfl (by kernel_rfl) rfl,
    fun f s W d j l m n c => opv rfl rfl (by simp [go_sem, c.e 1 k1_1]) rfl,
    fun f s W d j l m n c => opv rfl rfl (by simp [go_sem, c.e 2 k1_2]) rfl,
    fun f s W d j l m n c => by have q := below_trans fB1 d; exact opc rfl rfl (by simp [go_sem, c.e 15 (j 0 rfl), c.e 16 (j 1 rfl), c.e 17 (j 2 rfl)]) (tr_openWebs p os bo oo no co ax nx cx xs W (hO.below q) hp ho gno (hX.below q (Nat.le_refl _)) gxs gnx hpat),
    fun f s W d j l m n c => opv rfl rfl (by simp [go_sem, c.e 18 (j 3 rfl)]) rfl,
    fun f s W d j l m n c => opv rfl rfl (by simp [go_sem, c.e 14 (j 4 rfl)]) rfl,
    fun f s W d j l m n c => opv rfl rfl (by simp [go_sem, c.e 14 (j 4 rfl)]) rfl,
    fun f s W d j l m n c => opb rfl rfl (by simp [go_sem]), trivial⟩ ?_
  intro f2 s2 W2 hB2 g2 hg2
  have fB2 := hB2.f fB1
  have z2 := hB2.below.size
  have b2_0 := hB2.b br1_0
  obtain ⟨r2_7, br2_7⟩ := hB2.is 7
  have lr2_7 := hB2.lr 7 br2_7
  have k2_1 := kt hg2 1 k1_1
  have k2_2 := kt hg2 2 k1_2
  have k2_6 := kt hg2 6 k1_6
  have k2_7 := kt hg2 7 k1_7
  have k2_19 := kt hg2 19 (hB2.is 5)
  have k2_20 := kt hg2 20 (hB2.is 6)
  have k2_8 := kt hg2 8 r2_7
  obtain ⟨W3, hW3⟩ : ∃ W', W' = W2.setRow (s2 7) #[.int .i64 p.wide, .int .i64 p.tlo, .int .i64 p.thi, .int .i64 p.webs, .slice (some ⟨bo, oo, none⟩) (no) (co)] := ⟨_, rfl⟩
  refine tail_skip (o := _) rfl ⟨rfl, rfl⟩ (run_seg hW3 (fr_ev k2_8) (fr_ev k2_19) br2_7 rfl rfl rfl rfl) ?_
  obtain ⟨fB3, nb3, ot3, z3⟩ := seg_facts hW3 fB2 br2_7 (by omega)
  clear hW3
  have b3_0 := ot3 _ _ (by omega) b2_0
  refine tail_value (o := _) rfl rfl rfl (v := .int .i64 0) (by simp [go_sem, frv 54 k2_20]) ?_
  generalize hg4 : upd g2 9 (.int .i64 0) = g4
  have k4_1 := ku hg4 1 k2_1
  have k4_2 := ku hg4 2 k2_2
  have k4_6 := ku hg4 6 k2_6
  have k4_7 := ku hg4 7 k2_7
  have k4_8 := ku hg4 8 k2_8
  have k4_9 := kt hg4 9 (upd_same _ _ _)
  refine wpOps_end ?_
  refine hK2 _ _ ?_
  refine wp_seq_k fun K3 hK3 => ?_
  refine wp_seq_k fun K4 hK4 => ?_
  refine region_dk 2 [(21, 0), (22, 1)] [[], [0]] (rel [is (.int .i64 0),
      is (.bool false)])
    ⟨is_k, is_k, trivial⟩
    ⟨fun f s W d j l m n c => opv rfl rfl (by simp [go_sem, c.e 9 k4_9]) rfl,
    fun f s W d j l m n c => opv rfl rfl (by simp [go_sem, c.e 21 (j 0 rfl)]) rfl, trivial⟩ ?_
  intro f5 s5 W5 hB5 g5 hg5
  have fB5 := hB5.f fB3
  have z5 := hB5.below.size
  have b5_0 := hB5.b b3_0
  have b5_1 := hB5.b nb3
  refine hK4 _ _ ?_
  have k5_1 := kt hg5 1 k4_1
  have k5_2 := kt hg5 2 k4_2
  have k5_6 := kt hg5 6 k4_6
  have k5_7 := kt hg5 7 k4_7
  have k5_8 := kt hg5 8 k4_8
  have k5_9 := kt hg5 9 k4_9
  have k5_22 := kt hg5 22 (hB5.is 1)
  refine wp_cond_false ((fr_eval rfl).trans k5_22) ?_
  refine wp_skip ?_
  refine hK3 _ _ ?_
  refine wp_seq_k fun K6 hK6 => ?_
  refine region_dk 5 [(24, 0), (25, 1), (26, 2), (27, 3), (10, 4)] [[], [], [0, 1], [0, 1, 2], [0, 1, 2, 3]] (rel [is (.agg #[.int .i64 p.wide, .int .i64 p.tlo, .int .i64 p.thi, .int .i64 p.webs, .slice (some ⟨bo, oo, none⟩) (no) (co)]),
      is (.slice (ax) (nx) (cx)),
      is (.int .i64 ((leftF p os xs no))),
      is (.int .i64 a0),
      is (.int .i64 a0)])
    ⟨is_k, is_k, is_k, is_k, is_k, trivial⟩
    ⟨fun f s W d j l m n c => opl rfl rfl rfl (c.v 8 k5_8) (blk_below b5_1 d) Try.underlying87 rfl (by kernel_rfl) rfl,
    fun f s W d j l m n c => opv rfl rfl (by simp [go_sem, c.e 2 k5_2]) rfl,
    fun f s W d j l m n c => by have q := below_trans fB5 d; exact opDo_call rfl rfl (by simp [go_sem, c.e 24 (j 0 rfl), c.e 25 (j 1 rfl)]) (trim_any p os bo oo no co ax nx cx xs W (hO.below q) hp ho gno (hX.below q (Nat.le_refl _)) gxs (by omega)) ((fun e W' h => by have h1 := h.1; rw [gnx] at h1; exact ⟨_, h1, h.2, rfl⟩)),
    fun f s W d j l m n c => by have qu_ : ((leftF p os xs no)).tdiv 2 = a0 := (Int.tdiv_eq_ediv_of_nonneg (by omega)).trans ha0; have qw_ := IntWalk.i64_in a0 (by omega); exact opv rfl rfl (by simp [go_sem, c.e 26 (j 2 rfl), qu_, qw_]) rfl,
    fun f s W d j l m n c => opv rfl rfl (by simp [go_sem, c.e 27 (j 3 rfl)]) rfl, trivial⟩ ?_
  intro f6 s6 W6 hB6 g6 hg6
  have fB6 := hB6.f fB5
  have z6 := hB6.below.size
  have b6_0 := hB6.b b5_0
  have b6_1 := hB6.b b5_1
  refine hK6 _ _ ?_
  have k6_1 := kt hg6 1 k5_1
  have k6_2 := kt hg6 2 k5_2
  have k6_6 := kt hg6 6 k5_6
  have k6_7 := kt hg6 7 k5_7
  have k6_10 := kt hg6 10 (hB6.is 4)
  refine wp_seq_k fun K7 hK7 => ?_
  refine region_dk 3 [(28, 0), (29, 1), (11, 2)] [[], [0], [0, 1]] (rel [is (.int .i64 a0),
      row 1 1 #[.int .i64 a0] 3,
      isS fun s => .slice (some ⟨(s 1), 0, none⟩) (1) (1)])
    ⟨is_k, row_k, isS_k fun s s' e => by rw [e 1 (by simp)], trivial⟩
    ⟨fun f s W d j l m n c => opv rfl rfl (by simp [go_sem, c.e 10 k6_10]) rfl,
    fun f s W d j l m n c => opr rfl rfl (by simp [go_sem, c.e 28 (j 0 rfl)]),
    fun f s W d j l m n c => opv rfl rfl (by simp [go_sem, c.e 29 (j 1 rfl).1, upd]) rfl, trivial⟩ ?_
  intro f7 s7 W7 hB7 g7 hg7
  have fB7 := hB7.f fB6
  have z7 := hB7.below.size
  have b7_0 := hB7.b b6_0
  have b7_1 := hB7.b b6_1
  obtain ⟨r7_1, br7_1⟩ := hB7.is 1
  have lr7_1 := hB7.lr 1 br7_1
  refine hK7 _ _ ?_
  have k7_1 := kt hg7 1 k6_1
  have k7_2 := kt hg7 2 k6_2
  have k7_6 := kt hg7 6 k6_6
  have k7_7 := kt hg7 7 k6_7
  have k7_10 := kt hg7 10 k6_10
  have k7_11 := kt hg7 11 (hB7.is 2)
  have on0 : OwnN 3 1 w.heap.size 1 (iis (knF os xs a0 0)) (some ⟨(s7 1), 0, none⟩) 1 W7 := ownN_box br7_1 (by omega)
  refine wp_seq_k fun K8 hK8 => ?_
  refine wp_seq_k fun K9 hK9 => ?_
  refine region_dk 3 [(30, 0), (31, 1), (32, 2)] [[], [0], []] (rel [is (.slice (ax) (nx) (cx)),
      is (.int .i64 ((nx : Int))),
      is (.int .i64 0)])
    ⟨is_k, is_k, is_k, trivial⟩
    ⟨fun f s W d j l m n c => opv rfl rfl (by simp [go_sem, c.e 2 k7_2]) rfl,
    fun f s W d j l m n c => opv rfl rfl (by simp [go_sem, c.e 30 (j 0 rfl)]) rfl,
    fun f s W d j l m n c => opv rfl rfl (by simp [go_sem]) rfl, trivial⟩ ?_
  intro f8 s8 W8 hB8 g8 hg8
  have fB8 := hB8.f fB7
  have z8 := hB8.below.size
  have b8_0 := hB8.b b7_0
  have b8_1 := hB8.b b7_1
  have q1' := (on0.below hB8.below)
  refine hK9 _ _ ?_
  have k8_1 := kt hg8 1 k7_1
  have k8_6 := kt hg8 6 k7_6
  have k8_7 := kt hg8 7 k7_7
  have k8_10 := kt hg8 10 k7_10
  have k8_11 := kt hg8 11 k7_11
  have k8_30 := kt hg8 30 (hB8.is 0)
  have k8_31 := kt hg8 31 (hB8.is 1)
  have k8_32 := kt hg8 32 (hB8.is 2)
  refine wp_block ?_
  refine wp_loop_n (fun m_ a_ W_ => ∃ g_ : Nat → Value, a_ = fr 54 g_ ∧ (∃ k : Nat, ∃ nn : Nat, ∃ gq : Nat, ∃ cq : Nat, m_ = nx - k ∧ g_ 1 = .slice (some ⟨bo, oo, none⟩) (no) (co) ∧ g_ 6 = .slice (none) (0) (0) ∧ g_ 7 = .int .i64 0 ∧ g_ 30 = .slice (ax) (nx) (cx) ∧ g_ 31 = .int .i64 ((nx : Int)) ∧ g_ 32 = .int .i64 ((k : Int)) ∧ g_ 10 = .int .i64 ((atF os xs a0 k)) ∧ g_ 11 = .slice (some ⟨gq, 0, none⟩) (nn) (cq) ∧ Below w.heap.size w W_ ∧ W8.heap.size ≤ W_.heap.size ∧ W_.heap[(s1 0)]? = some (.cells #[.int .i64 p.wide, .int .i64 p.tlo, .int .i64 p.thi, .int .i64 p.webs] 35 (0, 0)) ∧ W_.heap[(s2 7)]? = some (.cells #[.int .i64 p.wide, .int .i64 p.tlo, .int .i64 p.thi, .int .i64 p.webs, .slice (some ⟨bo, oo, none⟩) (no) (co)] 87 (0, 0)) ∧ OwnN 3 1 w.heap.size nn (iis (knF os xs a0 k)) (some ⟨gq, 0, none⟩) cq W_ ∧ (k ≤ nx) ∧ (nn ≤ 1 + 4 * k))) ⟨_, g8, rfl, 0, 1, (s7 1), 1, rfl, k8_1, k8_6, k8_7, k8_30, k8_31, k8_32.trans (by rfl), k8_10.trans (by rfl), k8_11.trans (by rfl), fB8, Nat.le_refl _, b8_0, b8_1, q1', (by omega), (by omega)⟩ ?_
  rintro _ _ W_2 ⟨g_2, rfl, k, nn, gq, cq, rfl, k_2_1, k_2_6, k_2_7, k_2_30, k_2_31, k_2_32, k_2_10, k_2_11, fB_2, z_2, b_2_0, b_2_1, q3', lk0, lk1⟩
  have hx_ := getD_bd gxs (by decide) k
  have hat_ := atF_bd ga0 ho gxs k (by omega)
  refine wp_seq_k fun K10 hK10 => ?_
  refine region_dk 1 [(33, 0)] [[]] (rel [is (.bool (decide ((k : Int) < (nx : Int))))])
    ⟨is_k, trivial⟩
    ⟨fun f s W d j l m n c => opv rfl rfl (by simp [go_sem, c.e 32 k_2_32, c.e 31 k_2_31]) rfl, trivial⟩ ?_
  intro f9 s9 W9 hB9 g9 hg9
  have fB9 := hB9.f fB_2
  have z9 := hB9.below.size
  have b9_0 := hB9.b b_2_0
  have b9_1 := hB9.b b_2_1
  have q4' := (q3'.below hB9.below)
  refine hK10 _ _ ?_
  have k9_1 := kt hg9 1 k_2_1
  have k9_6 := kt hg9 6 k_2_6
  have k9_7 := kt hg9 7 k_2_7
  have k9_30 := kt hg9 30 k_2_30
  have k9_31 := kt hg9 31 k_2_31
  have k9_32 := kt hg9 32 k_2_32
  have k9_10 := kt hg9 10 k_2_10
  have k9_11 := kt hg9 11 k_2_11
  have k9_33 := kt hg9 33 (hB9.is 0)
  refine wp_seq_k fun K11 hK11 => ?_
  refine wp_cond_split (t := decide ((k : Int) < (nx : Int))) ((fr_eval rfl).trans k9_33) (fun hc12 => ?_) (fun hc12 => ?_)
  ·
    have hc12' := hc12; try simp only [ba] at hc12'
    have hkn : k < nx := by omega
    have hw_ := (ho k (by omega)).wd
    refine wp_skip ?_
    refine hK11 _ _ ?_
    refine wp_seq_k fun K13 hK13 => ?_
    refine wp_block ?_
    refine wp_seq_k fun K14 hK14 => ?_
    refine region_dk 5 [(34, 0), (35, 1), (36, 2), (12, 3), (13, 4)] [[], [], [1], [0, 1, 2], [0, 1, 2, 3]] (rel [is (.int .i64 ((k : Int))),
      is (.pointer (some ⟨bz, oz + k, none⟩)),
      is (.int .i64 ((elT xs k))),
      is (.int .i64 ((k : Int))),
      is (.int .i64 ((elT xs k)))])
      ⟨is_k, is_k, is_k, is_k, is_k, trivial⟩
      ⟨fun f s W d j l m n c => opv rfl rfl (by simp [go_sem, c.e 32 k9_32]) rfl,
    fun f s W d j l m n c => by have hab := (hX_ (by omega)).1; have li_ := Nat.not_le.2 (show k < nx by omega); have li2_ : (k : Int) < (nx : Int) := (by omega); exact opv rfl rfl (by simp [go_sem, c.e 30 k9_30, c.e 32 k9_32, hab, li_, li2_]) rfl,
    fun f s W d j l m n c => by have q := below_trans fB9 d; have cu_ := (hX_ (by omega)).2 W q k (by omega); exact opv rfl rfl (by simp [go_sem, c.e 35 (j 1 rfl), cu_]) rfl,
    fun f s W d j l m n c => opv rfl rfl (by simp [go_sem, c.e 34 (j 0 rfl)]) rfl,
    fun f s W d j l m n c => opv rfl rfl (by simp [go_sem, c.e 36 (j 2 rfl)]) rfl, trivial⟩ ?_
    intro f10 s10 W10 hB10 g10 hg10
    have fB10 := hB10.f fB9
    have z10 := hB10.below.size
    have b10_0 := hB10.b b9_0
    have b10_1 := hB10.b b9_1
    have q5' := (q4'.below hB10.below)
    refine hK14 _ _ ?_
    have k10_1 := kt hg10 1 k9_1
    have k10_6 := kt hg10 6 k9_6
    have k10_7 := kt hg10 7 k9_7
    have k10_30 := kt hg10 30 k9_30
    have k10_31 := kt hg10 31 k9_31
    have k10_32 := kt hg10 32 k9_32
    have k10_10 := kt hg10 10 k9_10
    have k10_11 := kt hg10 11 k9_11
    have k10_12 := kt hg10 12 (hB10.is 3)
    have k10_13 := kt hg10 13 (hB10.is 4)
    refine wp_seq_k fun K15 hK15 => ?_
    refine region_dk 2 [(37, 0), (38, 1)] [[], []] (rel [is (.int .i64 ((elT xs k))),
      is (.int .i64 0)])
      ⟨is_k, is_k, trivial⟩
      ⟨fun f s W d j l m n c => opv rfl rfl (by simp [go_sem, c.e 13 k10_13]) rfl,
    fun f s W d j l m n c => opv rfl rfl (by simp [go_sem]) rfl, trivial⟩ ?_
    intro f11 s11 W11 hB11 g11 hg11
    have fB11 := hB11.f fB10
    have z11 := hB11.below.size
    have b11_0 := hB11.b b10_0
    have b11_1 := hB11.b b10_1
    have q6' := (q5'.below hB11.below)
    refine hK15 _ _ ?_
    have k11_1 := kt hg11 1 k10_1
    have k11_6 := kt hg11 6 k10_6
    have k11_7 := kt hg11 7 k10_7
    have k11_30 := kt hg11 30 k10_30
    have k11_31 := kt hg11 31 k10_31
    have k11_32 := kt hg11 32 k10_32
    have k11_10 := kt hg11 10 k10_10
    have k11_11 := kt hg11 11 k10_11
    have k11_12 := kt hg11 12 k10_12
    have k11_37 := kt hg11 37 (hB11.is 0)
    have k11_38 := kt hg11 38 (hB11.is 1)
    refine wp_block ?_
    refine wp_loop_n (fun m_ a_ W_ => ∃ g_ : Nat → Value, a_ = fr 54 g_ ∧ (∃ i : Nat, ∃ ni : Nat, ∃ gi : Nat, ∃ ci : Nat, m_ = (elT xs k).toNat - i ∧ g_ 1 = .slice (some ⟨bo, oo, none⟩) (no) (co) ∧ g_ 6 = .slice (none) (0) (0) ∧ g_ 7 = .int .i64 0 ∧ g_ 30 = .slice (ax) (nx) (cx) ∧ g_ 31 = .int .i64 ((nx : Int)) ∧ g_ 32 = .int .i64 ((k : Int)) ∧ g_ 12 = .int .i64 ((k : Int)) ∧ g_ 37 = .int .i64 ((elT xs k)) ∧ g_ 38 = .int .i64 ((i : Int)) ∧ g_ 10 = .int .i64 ((atF os xs a0 k + (os k).wd * (i : Int))) ∧ g_ 11 = .slice (some ⟨gi, 0, none⟩) (ni) (ci) ∧ Below w.heap.size w W_ ∧ W11.heap.size ≤ W_.heap.size ∧ W_.heap[(s1 0)]? = some (.cells #[.int .i64 p.wide, .int .i64 p.tlo, .int .i64 p.thi, .int .i64 p.webs] 35 (0, 0)) ∧ W_.heap[(s2 7)]? = some (.cells #[.int .i64 p.wide, .int .i64 p.tlo, .int .i64 p.thi, .int .i64 p.webs, .slice (some ⟨bo, oo, none⟩) (no) (co)] 87 (0, 0)) ∧ OwnN 3 1 w.heap.size ni (iis (knF os xs a0 k ++ webF (os k).wd (atF os xs a0 k) i)) (some ⟨gi, 0, none⟩) ci W_ ∧ ((i : Int) ≤ elT xs k) ∧ (ni ≤ 1 + 4 * k + i))) ⟨_, g11, rfl, 0, nn, gq, cq, rfl, k11_1, k11_6, k11_7, k11_30, k11_31, k11_32, k11_12, k11_37, k11_38.trans (by rfl), k11_10.trans (by simp), k11_11.trans (by rfl), fB11, Nat.le_refl _, b11_0, b11_1, (by rw [show knF os xs a0 k ++ webF (os k).wd (atF os xs a0 k) 0 = knF os xs a0 k from List.append_nil _]; exact q6'), (by omega), (by omega)⟩ ?_
    rintro _ _ W_7 ⟨g_7, rfl, i, ni, gi, ci, rfl, k_7_1, k_7_6, k_7_7, k_7_30, k_7_31, k_7_32, k_7_12, k_7_37, k_7_38, k_7_10, k_7_11, fB_7, z_7, b_7_0, b_7_1, q8', li0, li1⟩
    have hwe_ : (atF os xs a0 k + (os k).wd * (i : Int)) + (os k).wd = atF os xs a0 k + (os k).wd * ((i : Int) + 1) := by rw [Int.mul_add, Int.mul_one, Int.add_assoc]
    have hmi_ := tr_mul (a := (os k).wd) (b := (i : Int)) (A := 3000) (B := 4) (by omega) (by omega)
    refine wp_seq_k fun K16 hK16 => ?_
    refine region_dk 1 [(39, 0)] [[]] (rel [is (.bool (decide ((i : Int) < (elT xs k))))])
      ⟨is_k, trivial⟩
      ⟨fun f s W d j l m n c => opv rfl rfl (by simp [go_sem, c.e 38 k_7_38, c.e 37 k_7_37]) rfl, trivial⟩ ?_
    intro f12 s12 W12 hB12 g12 hg12
    have fB12 := hB12.f fB_7
    have z12 := hB12.below.size
    have b12_0 := hB12.b b_7_0
    have b12_1 := hB12.b b_7_1
    have q9' := (q8'.below hB12.below)
    refine hK16 _ _ ?_
    have k12_1 := kt hg12 1 k_7_1
    have k12_6 := kt hg12 6 k_7_6
    have k12_7 := kt hg12 7 k_7_7
    have k12_30 := kt hg12 30 k_7_30
    have k12_31 := kt hg12 31 k_7_31
    have k12_32 := kt hg12 32 k_7_32
    have k12_12 := kt hg12 12 k_7_12
    have k12_37 := kt hg12 37 k_7_37
    have k12_38 := kt hg12 38 k_7_38
    have k12_10 := kt hg12 10 k_7_10
    have k12_11 := kt hg12 11 k_7_11
    have k12_39 := kt hg12 39 (hB12.is 0)
    refine wp_seq_k fun K17 hK17 => ?_
    refine wp_cond_split (t := decide ((i : Int) < (elT xs k))) ((fr_eval rfl).trans k12_39) (fun hc18 => ?_) (fun hc18 => ?_)
    ·
      have hc18' := hc18; try simp only [ba] at hc18'
      have hil : (i : Int) < elT xs k := by omega
      refine wp_skip ?_
      refine hK17 _ _ ?_
      refine wp_seq_k fun K19 hK19 => ?_
      refine wp_block ?_
      refine wp_seq_k fun K20 hK20 => ?_
      refine region_dk 8 [(40, 0), (41, 1), (42, 2), (43, 3), (44, 4), (45, 5), (46, 6), (10, 7)] [[], [], [], [1, 2], [1, 2, 3], [1, 2, 3, 4], [0, 1, 2, 3, 4, 5], [0, 1, 2, 3, 4, 5, 6]] (rel [is (.int .i64 ((atF os xs a0 k + (os k).wd * (i : Int)))),
      is (.slice (some ⟨bo, oo, none⟩) (no) (co)),
      is (.int .i64 ((k : Int))),
      is (.pointer (some ⟨bo, oo + k * 3, none⟩)),
      is (.pointer (some ⟨bo, oo + k * 3, none⟩)),
      is (.int .i64 ((os k).wd)),
      is (.int .i64 ((atF os xs a0 k + (os k).wd * (i : Int)) + ((os k).wd))),
      is (.int .i64 ((atF os xs a0 k + (os k).wd * (i : Int)) + ((os k).wd)))])
        ⟨is_k, is_k, is_k, is_k, is_k, is_k, is_k, is_k, trivial⟩
        ⟨fun f s W d j l m n c => opv rfl rfl (by simp [go_sem, c.e 10 ((m 7 10 rfl rfl).trans k12_10)]) rfl,
    fun f s W d j l m n c => opv rfl rfl (by simp [go_sem, c.e 1 k12_1]) rfl,
    fun f s W d j l m n c => opv rfl rfl (by simp [go_sem, c.e 12 k12_12]) rfl,
    fun f s W d j l m n c => by have li_ := Nat.not_le.2 (show k < no by omega); have li2_ : (k : Int) < (no : Int) := (by omega); exact opv rfl rfl (by simp [go_sem, c.e 41 (j 1 rfl), c.e 42 (j 2 rfl), li_, li2_]) rfl,
    fun f s W d j l m n c => opv rfl rfl (by simp [go_sem, c.e 43 (j 3 rfl)]) rfl,
    fun f s W d j l m n c => by have q := below_trans fB12 d; have cu_ := (hO.below q).2 k (by omega); have cu0_ : W.cell? ⟨bo, oo + k * 3, none⟩ = some (.int .i64 (os k).wd) := cu_.1; exact opv rfl rfl (by simp [go_sem, c.e 44 (j 4 rfl), cu0_]) rfl,
    fun f s W d j l m n c => opv rfl rfl (by simp [go_sem, c.e 40 (j 0 rfl), c.e 45 (j 5 rfl), IntWalk.i64_in ((atF os xs a0 k + (os k).wd * (i : Int)) + ((os k).wd)) (by omega)]) rfl,
    fun f s W d j l m n c => opv rfl rfl (by simp [go_sem, c.e 46 (j 6 rfl)]) rfl, trivial⟩ ?_
      intro f13 s13 W13 hB13 g13 hg13
      have fB13 := hB13.f fB12
      have z13 := hB13.below.size
      have b13_0 := hB13.b b12_0
      have b13_1 := hB13.b b12_1
      have q10' := (q9'.below hB13.below)
      refine hK20 _ _ ?_
      have k13_1 := kt hg13 1 k12_1
      have k13_6 := kt hg13 6 k12_6
      have k13_7 := kt hg13 7 k12_7
      have k13_30 := kt hg13 30 k12_30
      have k13_31 := kt hg13 31 k12_31
      have k13_32 := kt hg13 32 k12_32
      have k13_12 := kt hg13 12 k12_12
      have k13_37 := kt hg13 37 k12_37
      have k13_38 := kt hg13 38 k12_38
      have k13_11 := kt hg13 11 k12_11
      have k13_10 := kt hg13 10 (hB13.is 7)
      refine region_dk 3 [(47, 0), (48, 1), (49, 2), (50, 3), (11, 4)] [[], [], [1], [0, 1, 2], [0, 1, 2, 3]] (rel [is (.slice (some ⟨gi, 0, none⟩) (ni) (ci)),
      is (.int .i64 ((atF os xs a0 k + (os k).wd * (i : Int)) + ((os k).wd))),
      row 2 1 #[.int .i64 ((atF os xs a0 k + (os k).wd * (i : Int)) + ((os k).wd))] 3])
        ⟨is_k, is_k, row_k, trivial⟩
        ⟨fun f s W d j l m n c => opv rfl rfl (by simp [go_sem, c.e 11 ((m 4 11 rfl rfl).trans k13_11)]) rfl,
    fun f s W d j l m n c => opv rfl rfl (by simp [go_sem, c.e 10 k13_10]) rfl,
    fun f s W d j l m n c => opr rfl rfl (by simp [go_sem, c.e 48 (j 1 rfl)]), trivial⟩ ?_
      intro f14 s14 W14 hB14 g14 hg14
      have fB14 := hB14.f fB13
      have z14 := hB14.below.size
      have b14_0 := hB14.b b13_0
      have b14_1 := hB14.b b13_1
      have q11' := (q10'.below hB14.below)
      obtain ⟨r14_2, br14_2⟩ := hB14.is 2
      have lr14_2 := hB14.lr 2 br14_2
      have k14_1 := kt hg14 1 k13_1
      have k14_6 := kt hg14 6 k13_6
      have k14_7 := kt hg14 7 k13_7
      have k14_30 := kt hg14 30 k13_30
      have k14_31 := kt hg14 31 k13_31
      have k14_32 := kt hg14 32 k13_32
      have k14_12 := kt hg14 12 k13_12
      have k14_37 := kt hg14 37 k13_37
      have k14_38 := kt hg14 38 k13_38
      have k14_10 := kt hg14 10 k13_10
      have k14_47 := kt hg14 47 (hB14.is 0)
      have k14_49 := kt hg14 49 r14_2
      obtain ⟨ga15, ca15, W15, ra15, ow15, ot15, z15, gg15, fB15⟩ := growN_tail 29 29 3 1 8 _ (by kernel_rfl) infoI rfl (iis ((knF os xs a0 k ++ webF (os k).wd (atF os xs a0 k) i) ++ [(atF os xs a0 k + (os k).wd * (i : Int)) + ((os k).wd)])) (ni + 1) (off := 0) (k := 1) (c' := 1) [.int .i64 ((atF os xs a0 k + (os k).wd * (i : Int)) + ((os k).wd))] fB14 q11' (iis_snoc _ _) rfl rfl rfl (cells_at br14_2) (by omega)
      refine tail_value2 (o := _) rfl rfl rfl (run_appendOp (fr_ev k14_47) (fr_ev k14_49) ra15) ?_
      have b15_0 := ot15 _ _ (ownN_ne q11' b14_0) b14_0
      have b15_1 := ot15 _ _ (ownN_ne q11' b14_1) b14_1
      have on15 : OwnN 3 1 w.heap.size (ni + 1) (iis ((knF os xs a0 k ++ webF (os k).wd (atF os xs a0 k) i) ++ [(atF os xs a0 k + (os k).wd * (i : Int)) + ((os k).wd)])) (some ⟨ga15, 0, none⟩) ca15 W15 := .inr ⟨_, rfl, ow15⟩
      generalize hg15 : upd g14 50 (.slice (some ⟨ga15, 0, none⟩) ((ni + 1)) (ca15)) = g15
      have k15_1 := ku hg15 1 k14_1
      have k15_6 := ku hg15 6 k14_6
      have k15_7 := ku hg15 7 k14_7
      have k15_30 := ku hg15 30 k14_30
      have k15_31 := ku hg15 31 k14_31
      have k15_32 := ku hg15 32 k14_32
      have k15_12 := ku hg15 12 k14_12
      have k15_37 := ku hg15 37 k14_37
      have k15_38 := ku hg15 38 k14_38
      have k15_10 := ku hg15 10 k14_10
      have k15_50 := kt hg15 50 (upd_same _ _ _)
      refine tail_value (o := _) rfl rfl rfl (v := .slice (some ⟨ga15, 0, none⟩) ((ni + 1)) (ca15)) (by simp [go_sem, frv 54 k15_50]) ?_
      generalize hg16 : upd g15 11 (.slice (some ⟨ga15, 0, none⟩) ((ni + 1)) (ca15)) = g16
      have k16_1 := ku hg16 1 k15_1
      have k16_6 := ku hg16 6 k15_6
      have k16_7 := ku hg16 7 k15_7
      have k16_30 := ku hg16 30 k15_30
      have k16_31 := ku hg16 31 k15_31
      have k16_32 := ku hg16 32 k15_32
      have k16_12 := ku hg16 12 k15_12
      have k16_37 := ku hg16 37 k15_37
      have k16_38 := ku hg16 38 k15_38
      have k16_10 := ku hg16 10 k15_10
      have k16_11 := kt hg16 11 (upd_same _ _ _)
      refine wpOps_end ?_
      refine inBlock_normal ?_
      refine hK19 _ _ ?_
      refine region_dk 2 [(51, 0), (38, 1)] [[], [0]] (rel [is (.int .i64 ((i : Int) + 1)),
      is (.int .i64 ((i : Int) + 1))])
        ⟨is_k, is_k, trivial⟩
        ⟨fun f s W d j l m n c => opv rfl rfl (by simp [go_sem, c.e 38 ((m 1 38 rfl rfl).trans k16_38), IntWalk.i64_in ((i : Int) + 1) (by omega)]) rfl,
    fun f s W d j l m n c => opv rfl rfl (by simp [go_sem, c.e 51 (j 0 rfl)]) rfl, trivial⟩ ?_
      intro f17 s17 W17 hB17 g17 hg17
      have fB17 := hB17.f fB15
      have z17 := hB17.below.size
      have b17_0 := hB17.b b15_0
      have b17_1 := hB17.b b15_1
      have q12' := (on15.below hB17.below)
      refine wpOps_end ?_
      have k17_1 := kt hg17 1 k16_1
      have k17_6 := kt hg17 6 k16_6
      have k17_7 := kt hg17 7 k16_7
      have k17_30 := kt hg17 30 k16_30
      have k17_31 := kt hg17 31 k16_31
      have k17_32 := kt hg17 32 k16_32
      have k17_12 := kt hg17 12 k16_12
      have k17_37 := kt hg17 37 k16_37
      have k17_10 := kt hg17 10 k16_10
      have k17_11 := kt hg17 11 k16_11
      have k17_38 := kt hg17 38 (hB17.is 1)
      refine then_normal ?_
      exact ⟨_, by omega, g17, rfl, i + 1, (ni + 1), ga15, ca15, rfl, k17_1, k17_6, k17_7, k17_30, k17_31, k17_32, k17_12, k17_37, k17_38.trans (by go_num), k17_10.trans (by rw [hwe_, show ((i + 1 : Nat) : Int) = (i : Int) + 1 from by omega]), k17_11.trans (by go_num), fB17, (by omega), b17_0, b17_1, (by rw [show knF os xs a0 k ++ webF (os k).wd (atF os xs a0 k) (i + 1) = ((knF os xs a0 k ++ webF (os k).wd (atF os xs a0 k) i) ++ [(atF os xs a0 k + (os k).wd * (i : Int)) + ((os k).wd)]) from by rw [hwe_]; show _ ++ (_ ++ _) = _; rw [List.append_assoc]]; exact q12'), (by omega), (by omega)⟩
    ·
      have hc18' := hc18; try simp only [ba] at hc18'
      have hle2_ : elT xs k = (i : Int) := by omega
      have hle_ : (elT xs k).toNat = i := by omega
      refine wp_exit ?_
      refine then_exit ?_
      refine then_exit ?_
      refine inBlock_at ?_
      refine inBlock_normal ?_
      refine hK13 _ _ ?_
      refine region_dk 2 [(52, 0), (32, 1)] [[], [0]] (rel [is (.int .i64 ((k : Int) + 1)),
      is (.int .i64 ((k : Int) + 1))])
        ⟨is_k, is_k, trivial⟩
        ⟨fun f s W d j l m n c => opv rfl rfl (by simp [go_sem, c.e 32 ((m 1 32 rfl rfl).trans k12_32), IntWalk.i64_in ((k : Int) + 1) (by omega)]) rfl,
    fun f s W d j l m n c => opv rfl rfl (by simp [go_sem, c.e 52 (j 0 rfl)]) rfl, trivial⟩ ?_
      intro f18 s18 W18 hB18 g18 hg18
      have fB18 := hB18.f fB12
      have z18 := hB18.below.size
      have b18_0 := hB18.b b12_0
      have b18_1 := hB18.b b12_1
      have q13' := (q9'.below hB18.below)
      refine wpOps_end ?_
      have k18_1 := kt hg18 1 k12_1
      have k18_6 := kt hg18 6 k12_6
      have k18_7 := kt hg18 7 k12_7
      have k18_30 := kt hg18 30 k12_30
      have k18_31 := kt hg18 31 k12_31
      have k18_10 := kt hg18 10 k12_10
      have k18_11 := kt hg18 11 k12_11
      have k18_32 := kt hg18 32 (hB18.is 1)
      refine then_normal ?_
      exact ⟨_, by omega, g18, rfl, k + 1, ni, gi, ci, rfl, k18_1, k18_6, k18_7, k18_30, k18_31, k18_32.trans (by go_num), k18_10.trans (by rw [show atF os xs a0 (k + 1) = atF os xs a0 k + (os k).wd * (i : Int) from by rw [← hle2_, Int.mul_comm]; rfl]), k18_11.trans (by go_num), fB18, (by omega), b18_0, b18_1, (by have e_ := hle_; exact (by rw [show knF os xs a0 (k + 1) = knF os xs a0 k ++ webF (os k).wd (atF os xs a0 k) i from by rw [← hle_]; rfl]; exact q13')), (by omega), (by omega)⟩
  ·
    have hc12' := hc12; try simp only [ba] at hc12'
    have hkn : k = nx := by omega
    refine wp_exit ?_
    refine then_exit ?_
    refine then_exit ?_
    refine inBlock_at ?_
    refine hK8 _ _ ?_
    refine wp_seq_k fun K21 hK21 => ?_
    refine region_dk 3 [(53, 0), (6, 1), (7, 2)] [[], [0], [0, 1]] (rel [is (.slice (some ⟨gq, 0, none⟩) (nn) (cq)),
      is (.slice (some ⟨gq, 0, none⟩) (nn) (cq)),
      is (.int .i64 0)])
      ⟨is_k, is_k, is_k, trivial⟩
      ⟨fun f s W d j l m n c => opv rfl rfl (by simp [go_sem, c.e 11 k9_11]) rfl,
    fun f s W d j l m n c => opv rfl rfl (by simp [go_sem, c.e 53 (j 0 rfl)]) rfl,
    fun f s W d j l m n c => opv rfl rfl (by simp [go_sem]) rfl, trivial⟩ ?_
    intro f19 s19 W19 hB19 g19 hg19
    have fB19 := hB19.f fB9
    have z19 := hB19.below.size
    have b19_0 := hB19.b b9_0
    have b19_1 := hB19.b b9_1
    have q14' := (q4'.below hB19.below)
    refine hK21 _ _ ?_
    have k19_6 := kt hg19 6 (hB19.is 1)
    have k19_7 := kt hg19 7 (hB19.is 2)
    refine wp_ret ?_
    refine leave_gen (v := .tuple #[.slice (some ⟨gq, 0, none⟩) (nn) (cq), .int .i64 0]) (.inr rfl) (by simp [results, Try.results11, go_sem, frv 54 k19_6, frv 54 k19_7]) ?_
    have e_ : k = no := by omega
    subst e_
    have o_ := q14'
    rcases o_ with ⟨e1_, -⟩ | ⟨g1_, e1_, o1_⟩
    · cases e1_
    · cases e1_; exact ⟨_, rfl, kn_is o1_, fB19⟩
end Go.Proofs.Ytnhipdbdolabkaa
