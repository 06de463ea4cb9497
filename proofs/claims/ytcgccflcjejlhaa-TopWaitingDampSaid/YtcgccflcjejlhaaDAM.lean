/- Part of the proof: what the claim leans on. -/
import Derived.Test.YtcgccflcjejlhaaDAJ
import Derived.Test.YtcgccflcjejlhaaDAK
import Derived.Test.YtcgccflcjejlhaaDAL
import Derived.Test.YtcgccflcjejlhaaDAH
set_option linter.unusedSimpArgs false
set_option linter.unusedVariables false
namespace Go.Proofs.Ytcgccflcjejlhaa
open Go.RowKit
/-- What machines did, in a box. -/
def lineV (l : Nat → Fl) (i : Nat) : Value := if i % 3 = 0 then .int .i64 (l (i / 3)).dn else if i % 3 = 1 then .int .i64 ((l (i / 3)).kd : Int) else .bool (l (i / 3)).hd
theorem lineV_0 (l : Nat → Fl) (k : Nat) : lineV l (k * 3) = .int .i64 (l k).dn := by unfold lineV; rw [if_pos (by omega), show k * 3 / 3 = k by omega]
theorem lineV_1 (l : Nat → Fl) (k : Nat) : lineV l (k * 3 + 1) = .int .i64 ((l k).kd : Int) := by unfold lineV; rw [if_neg (by omega), if_pos (by omega), show (k * 3 + 1) / 3 = k by omega]
theorem lineV_2 (l : Nat → Fl) (k : Nat) : lineV l (k * 3 + 2) = .bool (l k).hd := by unfold lineV; rw [if_neg (by omega), if_neg (by omega), show (k * 3 + 2) / 3 = k by omega]
theorem setL_same (l : Nat → Fl) (k : Nat) (x : Fl) : setL l k x k = x := if_pos rfl
theorem lineV_set (l : Nat → Fl) (k : Nat) (x : Fl) {i : Nat} (h : i ∉ [k * 3 + 2, k * 3 + 1, k * 3]) : lineV l i = lineV (setL l k x) i := by
  have h1 : i / 3 ≠ k := fun e => h (by simp; omega)
  unfold lineV setL
  rw [if_neg h1]
theorem leX_keepX {b : Nat} {Ps : List (World → Prop)} {W W' : World} (h : LeX (fun k => k = b) Ps W W') : KeepX b W W' := ⟨h.os, h.tape, h.output, h.size, fun k o hk hx => (h.block k (lt_of_blk hx) hk).trans hx⟩
/-- How jobs are told. -/
def freeK (ns : Nat) (x : Fs) (k : Nat) (a n : Int) : Int := freeF ns x (k : Int) a n
def chK (CH : List (List Int)) (a b : Nat) : Int := elT (rwL CH a) b
theorem chK_bd {nm ns nj : Nat} {CH : List (List Int)} {x : Fs} {js : Nat → Fj} (hF : FlOk nm ns nj CH x js) (a b : Nat) : 0 ≤ chK CH a b ∧ chK CH a b ≤ 255 := by
  rcases Nat.lt_or_ge a 2 with h | h
  · exact getD_bd (hF.cr a h).2 (by decide) b
  · unfold chK rwL
    rw [List.getD_eq_getElem?_getD, List.getElem?_eq_none (by rw [hF.cl]; exact h)]
    show 0 ≤ (0 : Int) ∧ (0 : Int) ≤ 255; omega
theorem freeK_in {ns : Nat} {x : Fs} {T : Int} (h : x.t ≤ T) : FrIn (freeK ns x) T := freeF_in ns x h
theorem pass_pos {fr : Nat → Int → Int → Int} {ch : Nat → Nat → Int} {j : Fj} {l : Nat → Fl} {k : Nat} (h : 0 < elT j.ms k) {a : Int} (ha : fr k (atA (passF fr ch j l k).ln ch j.kd k (passF fr ch j l k).at_) (elT j.ms k) = a) : passF fr ch j l (k + 1) = ⟨a + elT j.ms k, setL (passF fr ch j l k).ln k ⟨a + elT j.ms k, j.kd, true⟩, (passF fr ch j l k).st ++ [a]⟩ := by rw [passF, if_pos h, ha]
theorem pass_neg {fr : Nat → Int → Int → Int} {ch : Nat → Nat → Int} {j : Fj} {l : Nat → Fl} {k : Nat} (h : ¬ 0 < elT j.ms k) : passF fr ch j l (k + 1) = ⟨(passF fr ch j l k).at_ + elT j.ms k, (passF fr ch j l k).ln, (passF fr ch j l k).st ++ [(passF fr ch j l k).at_]⟩ := by rw [passF, if_neg h]
/-- Where a row lies. -/
def LimB (a : Option Addr) (B : Nat) (W : World) : Prop := ∀ g, a = some ⟨g, 0, none⟩ → B ≤ g ∧ g < W.heap.size
theorem LimB.below {a : Option Addr} {B : Nat} {W W' : World} (h : LimB a B W) (hb : Below W.heap.size W W') : LimB a B W' := fun g e => ⟨(h g e).1, Nat.lt_of_lt_of_le (h g e).2 hb.size⟩
theorem iis_snoc' (xs : List Int) (y : Int) : iis xs ++ [Value.int .i64 y] = iis (xs ++ [y]) := by simp [iis]
theorem ii_own {B n g c : Nat} {L : List Int} {W : World} (h : OwnR 3 1 B n (iis L) g c W) (hl : L.length = n) : Ii W (some ⟨g, 0, none⟩) n c L := by
  subst hl; exact OwnI.ii (B := B) h
set_option maxRecDepth 100000 in
set_option maxHeartbeats 16000000 in
theorem pass_any (nm ns nj : Nat) (CH : List (List Int)) (x : Fs) (js : Nat → Fj) (bc oc cc bs os_ sc bj oj cj : Nat) (sa : Option Addr) (adc : Nat → Option Addr) (kpc : Nat → Nat) (adj : Nat → Option Addr) (kpj : Nat → Nat) (i bl : Nat) {w : World} (hF : FlOk nm ns nj CH x js) (hM : FlR nm ns nj CH js x bc oc bs os_ bj oj sa adc kpc adj kpj w) (hi : i < nj) (l : Nat → Fl) (M : Int) (hl : LineIn l M) (gM : 2000 ≤ M ∧ M ≤ 20000) (v1 : World) (hB0 : Below w.heap.size w v1) (hTB : TabV 147 12 (lineV l) bl v1) (hbl : w.heap.size ≤ bl) :
    Calls Try.prog 49 #[.agg #[.int .i64 ((nm : Int)), .slice (some ⟨bc, oc, none⟩) (2) (cc), .slice (sa) (ns) (sc), .slice (some ⟨bj, oj, none⟩) (nj) (cj)], .pointer (some ⟨bl, 0, none⟩), .agg #[.int .i64 (((js i).kd : Int)), .int .i64 ((js i).rd), .int .i64 ((js i).du), .slice ((adj i)) ((js i).ms.length) ((kpj i))]] v1 fun e W' => ∃ g c, e = .returned (.tuple #[.slice (some ⟨g, 0, none⟩) nm c, .int .i64 (passF (freeK ns x) (chK CH) (js i) l nm).at_]) ∧ Ii W' (some ⟨g, 0, none⟩) nm c (passF (freeK ns x) (chK CH) (js i) l nm).st ∧ v1.heap.size ≤ g ∧ g < W'.heap.size ∧ KeepX bl v1 W' ∧ TabV 147 12 (lineV (passF (freeK ns x) (chK CH) (js i) l nm).ln) bl W' := by
  have gn_ := hF.nmB
  have hJ := hF.jb i
  have hJM : FjIn (js i) M := ⟨hJ.kd, by have := hJ.rd; omega, hJ.ms⟩
  have gT_ : x.t ≤ M := by have := hF.xt; omega
  have gjm_ := hF.jm i
  have gkd_ := hJ.kd
  have grd_ := hJ.rd
  have lt_bl := hTB.lt
  obtain ⟨bm_, om_, hJo_⟩ := (hM.j.2 i hi).2.2.2.2.open
  have hJa_ := (hJo_ (by omega)).1
  have hJc_ := (hJo_ (by omega)).2
  refine calls_fr Try.func49 Try.ntmps49 rfl rfl fun g hg => ?_
  have k0 : g 0 = .agg #[.int .i64 ((nm : Int)), .slice (some ⟨bc, oc, none⟩) (2) (cc), .slice (sa) (ns) (sc), .slice (some ⟨bj, oj, none⟩) (nj) (cj)] := hg 0
  have k1 : g 1 = .pointer (some ⟨bl, 0, none⟩) := hg 1
  have k2 : g 2 = .agg #[.int .i64 (((js i).kd : Int)), .int .i64 ((js i).rd), .int .i64 ((js i).du), .slice ((adj i)) ((js i).ms.length) ((kpj i))] := hg 2
  clear hg
  refine wp_seq_k fun K1 hK1 => ?_
  refine region_dk 4 [(3, 0), (5, 1), (6, 2), (7, 3)] [[], [], [], [2]] (rel [bx 0 #[.int .i64 ((nm : Int)), .slice (some ⟨bc, oc, none⟩) (2) (cc), .slice (sa) (ns) (sc), .slice (some ⟨bj, oj, none⟩) (nj) (cj)] 94,
      bx 1 #[.int .i64 (((js i).kd : Int)), .int .i64 ((js i).rd), .int .i64 ((js i).du), .slice ((adj i)) ((js i).ms.length) ((kpj i))] 32,
      is (.slice (none) (0) (0)),
      is (.int .i64 0)])
    ⟨bx_k, bx_k, is_k, is_k, trivial⟩
    ⟨fun f s W m n p r u d => opb rfl rfl (by simp [go_sem, d.e 0 k0]),
    fun f s W m n p r u d => opb rfl rfl (by simp [go_sem, d.e 2 k2]),
    fun f s W m n p r u d => opv rfl rfl (by simp [go_sem]) rfl,
    fun f s W m n p r u d => opv rfl rfl (by simp [go_sem]) rfl, trivial⟩ ?_
  intro f1 s1 W1 hB1 g1 hg1
  have fB1 := hB1.f hB0
  have z1 := hB1.below.size
  have q1' := (KeepX.trans (KeepX.refl bl v1) (KeepX.of_below hB1.below))
  have q2' := (TabV.below hTB hB1.below)
  obtain ⟨r1_0, br1_0⟩ := hB1.is 0
  have lr1_0 := hB1.lr 0 br1_0
  obtain ⟨r1_1, br1_1⟩ := hB1.is 1
  have lr1_1 := hB1.lr 1 br1_1
  have ne1_0_1 := hB1.nb 0 1
  refine hK1 _ _ ?_
  have k1_1 := kt hg1 1 k1
  have k1_3 := kt hg1 3 r1_0
  have k1_5 := kt hg1 5 r1_1
  have k1_6 := kt hg1 6 (hB1.is 2)
  have k1_7 := kt hg1 7 (hB1.is 3)
  refine wp_seq_k fun K2 hK2 => ?_
  refine region_dk 3 [(12, 0), (13, 1), (8, 2)] [[], [0], [0, 1]] (rel [is (.pointer (some ⟨(s1 1), 1, none⟩)),
      is (.int .i64 ((js i).rd)),
      is (.int .i64 ((js i).rd))])
    ⟨is_k, is_k, is_k, trivial⟩
    ⟨fun f s W m n p r u d => opv rfl rfl (by simp [go_sem, d.e 5 k1_5]) rfl,
    fun f s W m n p r u d => opv rfl rfl (by simp [go_sem, d.e 12 (n 0 rfl), cb br1_1 m 1]) rfl,
    fun f s W m n p r u d => opv rfl rfl (by simp [go_sem, d.e 13 (n 1 rfl)]) rfl, trivial⟩ ?_
  intro f2 s2 W2 hB2 g2 hg2
  have fB2 := hB2.f fB1
  have z2 := hB2.below.size
  have b2_0 := hB2.b br1_0
  have b2_1 := hB2.b br1_1
  have q3' := (KeepX.trans q1' (KeepX.of_below hB2.below))
  have q4' := (TabV.below q2' hB2.below)
  refine hK2 _ _ ?_
  have k2_1 := kt hg2 1 k1_1
  have k2_3 := kt hg2 3 k1_3
  have k2_5 := kt hg2 5 k1_5
  have k2_6 := kt hg2 6 k1_6
  have k2_7 := kt hg2 7 k1_7
  have k2_8 := kt hg2 8 (hB2.is 2)
  refine wp_seq_k fun K3 hK3 => ?_
  refine wp_seq_k fun K4 hK4 => ?_
  refine region_dk 4 [(14, 0), (15, 1), (16, 2), (17, 3)] [[], [0], [0, 1], []] (rel [is (.pointer (some ⟨(s1 1), 3, none⟩)),
      is (.slice ((adj i)) ((js i).ms.length) ((kpj i))),
      is (.int .i64 (((js i).ms.length : Int))),
      is (.int .i64 0)])
    ⟨is_k, is_k, is_k, is_k, trivial⟩
    ⟨fun f s W m n p r u d => opv rfl rfl (by simp [go_sem, d.e 5 k2_5]) rfl,
    fun f s W m n p r u d => opv rfl rfl (by simp [go_sem, d.e 14 (n 0 rfl), cb b2_1 m 3]) rfl,
    fun f s W m n p r u d => opv rfl rfl (by simp [go_sem, d.e 15 (n 1 rfl)]) rfl,
    fun f s W m n p r u d => opv rfl rfl (by simp [go_sem]) rfl, trivial⟩ ?_
  intro f3 s3 W3 hB3 g3 hg3
  have fB3 := hB3.f fB2
  have z3 := hB3.below.size
  have b3_0 := hB3.b b2_0
  have b3_1 := hB3.b b2_1
  have q5' := (KeepX.trans q3' (KeepX.of_below hB3.below))
  have q6' := (TabV.below q4' hB3.below)
  refine hK4 _ _ ?_
  have k3_1 := kt hg3 1 k2_1
  have k3_3 := kt hg3 3 k2_3
  have k3_5 := kt hg3 5 k2_5
  have k3_6 := kt hg3 6 k2_6
  have k3_7 := kt hg3 7 k2_7
  have k3_8 := kt hg3 8 k2_8
  have k3_15 := kt hg3 15 (hB3.is 1)
  have k3_16 := kt hg3 16 (hB3.is 2)
  have k3_17 := kt hg3 17 (hB3.is 3)
  refine wp_block ?_
  refine wp_loop_n (fun m_ a_ W_ => ∃ g_ : Nat → Value, a_ = fr 87 g_ ∧ (∃ k : Nat, ∃ aq : Option Addr, ∃ cq : Nat, m_ = nm - k ∧ g_ 1 = .pointer (some ⟨bl, 0, none⟩) ∧ g_ 3 = .pointer (some ⟨(s1 0), 0, none⟩) ∧ g_ 5 = .pointer (some ⟨(s1 1), 0, none⟩) ∧ g_ 7 = .int .i64 0 ∧ g_ 15 = .slice ((adj i)) ((js i).ms.length) ((kpj i)) ∧ g_ 16 = .int .i64 (((js i).ms.length : Int)) ∧ g_ 17 = .int .i64 ((k : Int)) ∧ g_ 6 = .slice (aq) (k) (cq) ∧ g_ 8 = .int .i64 ((passF (freeK ns x) (chK CH) (js i) l k).at_) ∧ Below w.heap.size w W_ ∧ W3.heap.size ≤ W_.heap.size ∧ W_.heap[(s1 0)]? = some (.cells #[.int .i64 ((nm : Int)), .slice (some ⟨bc, oc, none⟩) (2) (cc), .slice (sa) (ns) (sc), .slice (some ⟨bj, oj, none⟩) (nj) (cj)] 94 (0, 0)) ∧ W_.heap[(s1 1)]? = some (.cells #[.int .i64 (((js i).kd : Int)), .int .i64 ((js i).rd), .int .i64 ((js i).du), .slice ((adj i)) ((js i).ms.length) ((kpj i))] 32 (0, 0)) ∧ KeepX bl v1 W_ ∧ TabV 147 12 (lineV (passF (freeK ns x) (chK CH) (js i) l k).ln) bl W_ ∧ OwnN 3 1 w.heap.size k (iis (passF (freeK ns x) (chK CH) (js i) l k).st) (aq) cq W_ ∧ LimB (aq) v1.heap.size W_ ∧ (k ≤ nm))) ⟨_, g3, rfl, 0, none, 0, rfl, k3_1, k3_3, k3_5, k3_7, k3_15, k3_16, k3_17.trans (by rfl), k3_6.trans (by rfl), k3_8.trans rfl, fB3, Nat.le_refl _, b3_0, b3_1, q5', q6', ownN_nil, (fun g e => nomatch e), (by omega)⟩ ?_
  rintro _ _ W_7 ⟨g_7, rfl, k, aq, cq, rfl, k_7_1, k_7_3, k_7_5, k_7_7, k_7_15, k_7_16, k_7_17, k_7_6, k_7_8, fB_7, z_7, b_7_0, b_7_1, q8', q9', q10', q11', lk0⟩
  refine wp_seq_k fun K5 hK5 => ?_
  refine region_dk 1 [(18, 0)] [[]] (rel [is (.bool (decide ((k : Int) < ((js i).ms.length : Int))))])
    ⟨is_k, trivial⟩
    ⟨fun f s W m n p r u d => opv rfl rfl (by simp [go_sem, d.e 17 k_7_17, d.e 16 k_7_16]) rfl, trivial⟩ ?_
  intro f4 s4 W4 hB4 g4 hg4
  have fB4 := hB4.f fB_7
  have z4 := hB4.below.size
  have b4_0 := hB4.b b_7_0
  have b4_1 := hB4.b b_7_1
  have q12' := (KeepX.trans q8' (KeepX.of_below hB4.below))
  have q13' := (TabV.below q9' hB4.below)
  have q14' := (OwnN.below q10' hB4.below)
  have q15' := (LimB.below q11' hB4.below)
  refine hK5 _ _ ?_
  have k4_1 := kt hg4 1 k_7_1
  have k4_3 := kt hg4 3 k_7_3
  have k4_5 := kt hg4 5 k_7_5
  have k4_7 := kt hg4 7 k_7_7
  have k4_15 := kt hg4 15 k_7_15
  have k4_16 := kt hg4 16 k_7_16
  have k4_17 := kt hg4 17 k_7_17
  have k4_6 := kt hg4 6 k_7_6
  have k4_8 := kt hg4 8 k_7_8
  have k4_18 := kt hg4 18 (hB4.is 0)
  refine wp_seq_k fun K6 hK6 => ?_
  refine wp_cond_split (t := decide ((k : Int) < ((js i).ms.length : Int))) ((fr_eval rfl).trans k4_18) (fun hc7 => ?_) (fun hc7 => ?_)
  ·
    have hc7' := hc7; try simp only [ba] at hc7'
    have hkn : k < nm := by omega
    have hms_ := getD_bd hJ.ms (by decide) k
    have hpb_ := passF_bd (freeK_in (ns := ns) gT_) (chK_bd hF) (by omega) hJM hl k
    have hpl_ := hpb_.2.1.h k
    obtain ⟨kq_, hkq_⟩ : ∃ q, ((passF (freeK ns x) (chK CH) (js i) l k).ln k).kd = q := ⟨_, rfl⟩
    have hkq1_ : kq_ ≤ 1 := by omega
    have hcq_ := hF.cr kq_ (by omega)
    have hcb_ := chK_bd hF kq_ (js i).kd
    obtain ⟨br_, or_, hCo_⟩ := (hM.c.2 kq_ (by omega)).2.open
    have hCa_ := (hCo_ (by omega)).1
    have hCc_ := (hCo_ (by omega)).2
    refine wp_skip ?_
    refine hK6 _ _ ?_
    refine wp_seq_k fun K8 hK8 => ?_
    refine wp_block ?_
    refine wp_seq_k fun K9 hK9 => ?_
    refine region_dk 5 [(19, 0), (20, 1), (21, 2), (9, 3), (10, 4)] [[], [], [1], [0, 1, 2], [0, 1, 2, 3]] (rel [is (.int .i64 ((k : Int))),
      is (.pointer (some ⟨bm_, om_ + k, none⟩)),
      is (.int .i64 ((elT (js i).ms k))),
      is (.int .i64 ((k : Int))),
      is (.int .i64 ((elT (js i).ms k)))])
      ⟨is_k, is_k, is_k, is_k, is_k, trivial⟩
      ⟨fun f s W m n p r u d => opv rfl rfl (by simp [go_sem, d.e 17 k4_17]) rfl,
    fun f s W m n p r u d => by have hab := hJa_; have li_ := Nat.not_le.2 (show k < (js i).ms.length by omega); have li2_ : (k : Int) < ((js i).ms.length : Int) := (by omega); exact opv rfl rfl (by simp [go_sem, d.e 15 k4_15, d.e 17 k4_17, hab, li_, li2_]) rfl,
    fun f s W m n p r u d => by have y := below_trans fB4 m; have cu_ := hJc_ W y k (by omega); exact opv rfl rfl (by simp [go_sem, d.e 20 (n 1 rfl), cu_]) rfl,
    fun f s W m n p r u d => opv rfl rfl (by simp [go_sem, d.e 19 (n 0 rfl)]) rfl,
    fun f s W m n p r u d => opv rfl rfl (by simp [go_sem, d.e 21 (n 2 rfl)]) rfl, trivial⟩ ?_
    intro f5 s5 W5 hB5 g5 hg5
    have fB5 := hB5.f fB4
    have z5 := hB5.below.size
    have b5_0 := hB5.b b4_0
    have b5_1 := hB5.b b4_1
    have q16' := (KeepX.trans q12' (KeepX.of_below hB5.below))
    have q17' := (TabV.below q13' hB5.below)
    have q18' := (OwnN.below q14' hB5.below)
    have q19' := (LimB.below q15' hB5.below)
    refine hK9 _ _ ?_
    have k5_1 := kt hg5 1 k4_1
    have k5_3 := kt hg5 3 k4_3
    have k5_5 := kt hg5 5 k4_5
    have k5_7 := kt hg5 7 k4_7
    have k5_15 := kt hg5 15 k4_15
    have k5_16 := kt hg5 16 k4_16
    have k5_17 := kt hg5 17 k4_17
    have k5_6 := kt hg5 6 k4_6
    have k5_8 := kt hg5 8 k4_8
    have k5_9 := kt hg5 9 (hB5.is 3)
    have k5_10 := kt hg5 10 (hB5.is 4)
    refine wp_seq_k fun K10 hK10 => ?_
    refine wp_seq_k fun K11 hK11 => ?_
    refine region_dk 2 [(22, 0), (23, 1)] [[], [0]] (rel [is (.int .i64 ((elT (js i).ms k))),
      is (.bool (decide (0 < (elT (js i).ms k))))])
      ⟨is_k, is_k, trivial⟩
      ⟨fun f s W m n p r u d => opv rfl rfl (by simp [go_sem, d.e 10 k5_10]) rfl,
    fun f s W m n p r u d => opv rfl rfl (by simp [go_sem, d.e 22 (n 0 rfl)]) rfl, trivial⟩ ?_
    intro f6 s6 W6 hB6 g6 hg6
    have fB6 := hB6.f fB5
    have z6 := hB6.below.size
    have b6_0 := hB6.b b5_0
    have b6_1 := hB6.b b5_1
    have q20' := (KeepX.trans q16' (KeepX.of_below hB6.below))
    have q21' := (TabV.below q17' hB6.below)
    have q22' := (OwnN.below q18' hB6.below)
    have q23' := (LimB.below q19' hB6.below)
    refine hK11 _ _ ?_
    have k6_1 := kt hg6 1 k5_1
    have k6_3 := kt hg6 3 k5_3
    have k6_5 := kt hg6 5 k5_5
    have k6_7 := kt hg6 7 k5_7
    have k6_15 := kt hg6 15 k5_15
    have k6_16 := kt hg6 16 k5_16
    have k6_17 := kt hg6 17 k5_17
    have k6_6 := kt hg6 6 k5_6
    have k6_8 := kt hg6 8 k5_8
    have k6_9 := kt hg6 9 k5_9
    have k6_10 := kt hg6 10 k5_10
    have k6_23 := kt hg6 23 (hB6.is 1)
    refine wp_cond_split (t := decide (0 < (elT (js i).ms k))) ((fr_eval rfl).trans k6_23) (fun hc12 => ?_) (fun hc12 => ?_)
    ·
      have hc12' := hc12; try simp only [ba] at hc12'
      have hn0_ : 0 < elT (js i).ms k := by omega
      obtain ⟨am_, ham_⟩ : ∃ a, freeK ns x k (atA (passF (freeK ns x) (chK CH) (js i) l k).ln (chK CH) (js i).kd k (passF (freeK ns x) (chK CH) (js i) l k).at_) (elT (js i).ms k) = a := ⟨_, rfl⟩
      have hps_ := pass_pos (fr := freeK ns x) (ch := chK CH) (j := js i) (l := l) hn0_ ham_
      have hfb_ := (freeK_in (ns := ns) (x := x) gT_).h k (atA (passF (freeK ns x) (chK CH) (js i) l k).ln (chK CH) (js i).kd k (passF (freeK ns x) (chK CH) (js i) l k).at_) (elT (js i).ms k)
      rw [ham_] at hfb_
      have hab_ := atA_bd (chK_bd hF) hpb_.2.1 (js i).kd k hpb_.1.1 hpb_.1.2
      refine wp_seq_k fun K13 hK13 => ?_
      refine wp_seq_k fun K14 hK14 => ?_
      refine region_dk 5 [(24, 0), (25, 1), (26, 2), (27, 3), (11, 4)] [[], [], [0], [0, 1, 2], [0, 1, 2, 3]] (rel [is (.pointer (some ⟨bl, 0, none⟩)),
      is (.int .i64 ((k : Int))),
      is (.pointer (some ⟨bl, 0, none⟩)),
      is (.pointer (some ⟨bl, k * 3, none⟩)),
      is (.pointer (some ⟨bl, k * 3, none⟩))])
        ⟨is_k, is_k, is_k, is_k, is_k, trivial⟩
        ⟨fun f s W m n p r u d => opv rfl rfl (by simp [go_sem, d.e 1 k6_1]) rfl,
    fun f s W m n p r u d => opv rfl rfl (by simp [go_sem, d.e 9 k6_9]) rfl,
    fun f s W m n p r u d => opv rfl rfl (by simp [go_sem, d.e 24 (n 0 rfl)]) rfl,
    fun f s W m n p r u d => by have li_ := Nat.not_le.2 (show k < 4 by omega); have li2_ : (k : Int) < 4 := (by omega); exact opv rfl rfl (by simp [go_sem, d.e 26 (n 2 rfl), d.e 25 (n 1 rfl), li_, li2_]) rfl,
    fun f s W m n p r u d => opv rfl rfl (by simp [go_sem, d.e 27 (n 3 rfl)]) rfl, trivial⟩ ?_
      intro f7 s7 W7 hB7 g7 hg7
      have fB7 := hB7.f fB6
      have z7 := hB7.below.size
      have b7_0 := hB7.b b6_0
      have b7_1 := hB7.b b6_1
      have q24' := (KeepX.trans q20' (KeepX.of_below hB7.below))
      have q25' := (TabV.below q21' hB7.below)
      have q26' := (OwnN.below q22' hB7.below)
      have q27' := (LimB.below q23' hB7.below)
      refine hK14 _ _ ?_
      have k7_1 := kt hg7 1 k6_1
      have k7_3 := kt hg7 3 k6_3
      have k7_5 := kt hg7 5 k6_5
      have k7_7 := kt hg7 7 k6_7
      have k7_15 := kt hg7 15 k6_15
      have k7_16 := kt hg7 16 k6_16
      have k7_17 := kt hg7 17 k6_17
      have k7_6 := kt hg7 6 k6_6
      have k7_8 := kt hg7 8 k6_8
      have k7_9 := kt hg7 9 k6_9
      have k7_10 := kt hg7 10 k6_10
      have k7_11 := kt hg7 11 (hB7.is 4)
      refine wp_seq_k fun K15 hK15 => ?_
      refine region_dk 4 [(28, 0), (29, 1), (30, 2), (31, 3)] [[], [0], [0, 1], [0, 1, 2]] (rel [is (.pointer (some ⟨bl, k * 3, none⟩)),
      is (.pointer (some ⟨bl, k * 3, none⟩)),
      is (.pointer (some ⟨bl, k * 3 + 2, none⟩)),
      is (.bool (((passF (freeK ns x) (chK CH) (js i) l k).ln k).hd))])
        ⟨is_k, is_k, is_k, is_k, trivial⟩
        ⟨fun f s W m n p r u d => opv rfl rfl (by simp [go_sem, d.e 11 k7_11]) rfl,
    fun f s W m n p r u d => opv rfl rfl (by simp [go_sem, d.e 28 (n 0 rfl)]) rfl,
    fun f s W m n p r u d => opv rfl rfl (by simp [go_sem, d.e 29 (n 1 rfl)]) rfl,
    fun f s W m n p r u d => by have cu_ := ((TabV.below q25' m)).cell (i := k * 3 + 2) (by omega); rw [lineV_2] at cu_; exact opv rfl rfl (by simp [go_sem, d.e 30 (n 2 rfl), cu_]) rfl, trivial⟩ ?_
      intro f8 s8 W8 hB8 g8 hg8
      have fB8 := hB8.f fB7
      have z8 := hB8.below.size
      have b8_0 := hB8.b b7_0
      have b8_1 := hB8.b b7_1
      have q28' := (KeepX.trans q24' (KeepX.of_below hB8.below))
      have q29' := (TabV.below q25' hB8.below)
      have q30' := (OwnN.below q26' hB8.below)
      have q31' := (LimB.below q27' hB8.below)
      refine hK15 _ _ ?_
      have k8_1 := kt hg8 1 k7_1
      have k8_3 := kt hg8 3 k7_3
      have k8_5 := kt hg8 5 k7_5
      have k8_7 := kt hg8 7 k7_7
      have k8_15 := kt hg8 15 k7_15
      have k8_16 := kt hg8 16 k7_16
      have k8_17 := kt hg8 17 k7_17
      have k8_6 := kt hg8 6 k7_6
      have k8_8 := kt hg8 8 k7_8
      have k8_9 := kt hg8 9 k7_9
      have k8_10 := kt hg8 10 k7_10
      have k8_11 := kt hg8 11 k7_11
      have k8_31 := kt hg8 31 (hB8.is 3)
      refine wp_cond_split (t := ((passF (freeK ns x) (chK CH) (js i) l k).ln k).hd) ((fr_eval rfl).trans k8_31) (fun hc16 => ?_) (fun hc16 => ?_)
      ·
        have hc16' := hc16; try simp only [ba] at hc16'
        have hat_ : atA (passF (freeK ns x) (chK CH) (js i) l k).ln (chK CH) (js i).kd k (passF (freeK ns x) (chK CH) (js i) l k).at_ = max (passF (freeK ns x) (chK CH) (js i) l k).at_ (((passF (freeK ns x) (chK CH) (js i) l k).ln k).dn + chK CH kq_ (js i).kd) := by rw [atA, hc16, hkq_]; rfl
        refine region_dk 21 [(32, 0), (33, 1), (34, 2), (35, 3), (36, 4), (37, 5), (38, 6), (39, 7), (40, 8), (41, 9), (42, 10), (43, 11), (44, 12), (45, 13), (46, 14), (47, 15), (48, 16), (49, 17), (50, 18), (51, 19), (8, 20)] [[], [], [1], [1, 2], [1, 2, 3], [], [5], [5, 6], [], [8], [8, 9], [8, 9, 10], [5, 6, 7, 8, 9, 10, 11], [5, 6, 7, 8, 9, 10, 11, 12], [], [14], [5, 6, 7, 8, 9, 10, 11, 12, 13, 14, 15], [5, 6, 7, 8, 9, 10, 11, 12, 13, 14, 15, 16], [1, 2, 3, 4, 5, 6, 7, 8, 9, 10, 11, 12, 13, 14, 15, 16, 17], [0, 1, 2, 3, 4, 5, 6, 7, 8, 9, 10, 11, 12, 13, 14, 15, 16, 17, 18], [0, 1, 2, 3, 4, 5, 6, 7, 8, 9, 10, 11, 12, 13, 14, 15, 16, 17, 18, 19]] (rel [is (.int .i64 ((passF (freeK ns x) (chK CH) (js i) l k).at_)),
      is (.pointer (some ⟨bl, k * 3, none⟩)),
      is (.pointer (some ⟨bl, k * 3, none⟩)),
      is (.pointer (some ⟨bl, k * 3, none⟩)),
      is (.int .i64 (((passF (freeK ns x) (chK CH) (js i) l k).ln k).dn)),
      is (.pointer (some ⟨(s1 0), 0, none⟩)),
      is (.pointer (some ⟨(s1 0), 1, none⟩)),
      is (.slice (some ⟨bc, oc, none⟩) (2) (cc)),
      is (.pointer (some ⟨bl, k * 3, none⟩)),
      is (.pointer (some ⟨bl, k * 3, none⟩)),
      is (.pointer (some ⟨bl, k * 3 + 1, none⟩)),
      is (.int .i64 (((kq_ : Nat) : Int))),
      is (.pointer (some ⟨bc, oc + kq_, none⟩)),
      is (.slice ((adc kq_)) ((rwL CH kq_).length) ((kpc kq_))),
      is (.pointer (some ⟨(s1 1), 0, none⟩)),
      is (.int .i64 (((js i).kd : Int))),
      is (.pointer (some ⟨br_, or_ + (js i).kd, none⟩)),
      is (.int .i64 ((chK CH kq_ (js i).kd))),
      is (.int .i64 ((((passF (freeK ns x) (chK CH) (js i) l k).ln k).dn) + (chK CH kq_ (js i).kd))),
      is (.int .i64 (max ((passF (freeK ns x) (chK CH) (js i) l k).at_) ((((passF (freeK ns x) (chK CH) (js i) l k).ln k).dn) + (chK CH kq_ (js i).kd)))),
      is (.int .i64 (max ((passF (freeK ns x) (chK CH) (js i) l k).at_) ((((passF (freeK ns x) (chK CH) (js i) l k).ln k).dn) + (chK CH kq_ (js i).kd))))])
          ⟨is_k, is_k, is_k, is_k, is_k, is_k, is_k, is_k, is_k, is_k, is_k, is_k, is_k, is_k, is_k, is_k, is_k, is_k, is_k, is_k, is_k, trivial⟩
          ⟨fun f s W m n p r u d => opv rfl rfl (by simp [go_sem, d.e 8 ((r 20 8 rfl rfl).trans k8_8)]) rfl,
    fun f s W m n p r u d => opv rfl rfl (by simp [go_sem, d.e 11 k8_11]) rfl,
    fun f s W m n p r u d => opv rfl rfl (by simp [go_sem, d.e 33 (n 1 rfl)]) rfl,
    fun f s W m n p r u d => opv rfl rfl (by simp [go_sem, d.e 34 (n 2 rfl)]) rfl,
    fun f s W m n p r u d => by have cu_ := ((TabV.below q29' m)).cell (i := k * 3) (by omega); rw [lineV_0] at cu_; exact opv rfl rfl (by simp [go_sem, d.e 35 (n 3 rfl), cu_]) rfl,
    fun f s W m n p r u d => opv rfl rfl (by simp [go_sem, d.e 3 k8_3]) rfl,
    fun f s W m n p r u d => opv rfl rfl (by simp [go_sem, d.e 37 (n 5 rfl)]) rfl,
    fun f s W m n p r u d => opv rfl rfl (by simp [go_sem, d.e 38 (n 6 rfl), cb b8_0 m 1]) rfl,
    fun f s W m n p r u d => opv rfl rfl (by simp [go_sem, d.e 11 k8_11]) rfl,
    fun f s W m n p r u d => opv rfl rfl (by simp [go_sem, d.e 40 (n 8 rfl)]) rfl,
    fun f s W m n p r u d => opv rfl rfl (by simp [go_sem, d.e 41 (n 9 rfl)]) rfl,
    fun f s W m n p r u d => by have cu_ := ((TabV.below q29' m)).cell (i := k * 3 + 1) (by omega); rw [lineV_1, hkq_] at cu_; exact opv rfl rfl (by simp [go_sem, d.e 42 (n 10 rfl), cu_]) rfl,
    fun f s W m n p r u d => by have li_ := Nat.not_le.2 (show kq_ < 2 by omega); have li2_ : (kq_ : Int) < 2 := (by omega); exact opv rfl rfl (by simp [go_sem, d.e 39 (n 7 rfl), d.e 43 (n 11 rfl), li_, li2_, hkq_]) rfl,
    fun f s W m n p r u d => by have y := below_trans fB8 m; have cu_ := ((hM.c.below y).2 kq_ (by omega)).1; exact opv rfl rfl (by simp [go_sem, d.e 44 (n 12 rfl), cu_]) rfl,
    fun f s W m n p r u d => opv rfl rfl (by simp [go_sem, d.e 5 k8_5]) rfl,
    fun f s W m n p r u d => opv rfl rfl (by simp [go_sem, d.e 46 (n 14 rfl), cb b8_1 m 0]) rfl,
    fun f s W m n p r u d => by have hab := hCa_; have li_ := Nat.not_le.2 (show (js i).kd < (rwL CH kq_).length by omega); have li2_ : ((js i).kd : Int) < ((rwL CH kq_).length : Int) := (by omega); exact opv rfl rfl (by simp [go_sem, d.e 45 (n 13 rfl), d.e 47 (n 15 rfl), hab, li_, li2_]) rfl,
    fun f s W m n p r u d => by have y := below_trans fB8 m; have cu_ : W.cell? ⟨br_, or_ + (js i).kd, none⟩ = some (.int .i64 (chK CH kq_ (js i).kd)) := hCc_ W y (js i).kd (by omega); exact opv rfl rfl (by simp [go_sem, d.e 48 (n 16 rfl), cu_]) rfl,
    fun f s W m n p r u d => opv rfl rfl (by simp [go_sem, d.e 36 (n 4 rfl), d.e 49 (n 17 rfl), IntWalk.i64_in ((((passF (freeK ns x) (chK CH) (js i) l k).ln k).dn) + (chK CH kq_ (js i).kd)) (by omega)]) rfl,
    fun f s W m n p r u d => opv rfl rfl (by simp [go_sem, d.e 32 (n 0 rfl), d.e 50 (n 18 rfl)]) rfl,
    fun f s W m n p r u d => opv rfl rfl (by simp [go_sem, d.e 51 (n 19 rfl)]) rfl, trivial⟩ ?_
        intro f9 s9 W9 hB9 g9 hg9
        have fB9 := hB9.f fB8
        have z9 := hB9.below.size
        have b9_0 := hB9.b b8_0
        have b9_1 := hB9.b b8_1
        have q32' := (KeepX.trans q28' (KeepX.of_below hB9.below))
        have q33' := (TabV.below q29' hB9.below)
        have q34' := (OwnN.below q30' hB9.below)
        have q35' := (LimB.below q31' hB9.below)
        refine hK13 _ _ ?_
        have k9_1 := kt hg9 1 k8_1
        have k9_3 := kt hg9 3 k8_3
        have k9_5 := kt hg9 5 k8_5
        have k9_7 := kt hg9 7 k8_7
        have k9_15 := kt hg9 15 k8_15
        have k9_16 := kt hg9 16 k8_16
        have k9_17 := kt hg9 17 k8_17
        have k9_6 := kt hg9 6 k8_6
        have k9_9 := kt hg9 9 k8_9
        have k9_10 := kt hg9 10 k8_10
        have k9_8 := kt hg9 8 (hB9.is 20)
        refine wp_seq_k fun K17 hK17 => ?_
        refine region_dk 6 [(52, 0), (53, 1), (54, 2), (55, 3), (56, 4), (8, 5)] [[], [], [], [], [0, 1, 2, 3], [0, 1, 2, 3, 4]] (rel [is (.agg #[.int .i64 ((nm : Int)), .slice (some ⟨bc, oc, none⟩) (2) (cc), .slice (sa) (ns) (sc), .slice (some ⟨bj, oj, none⟩) (nj) (cj)]),
      is (.int .i64 ((k : Int))),
      is (.int .i64 (max ((passF (freeK ns x) (chK CH) (js i) l k).at_) ((((passF (freeK ns x) (chK CH) (js i) l k).ln k).dn) + (chK CH kq_ (js i).kd)))),
      is (.int .i64 ((elT (js i).ms k))),
      is (.int .i64 am_),
      is (.int .i64 am_)])
          ⟨is_k, is_k, is_k, is_k, is_k, is_k, trivial⟩
          ⟨fun f s W m n p r u d => opl rfl rfl rfl (d.v 3 k9_3) (blk_below b9_0 m) Try.underlying94 rfl (by kernel_rfl) rfl,
    fun f s W m n p r u d => opv rfl rfl (by simp [go_sem, d.e 9 k9_9]) rfl,
    fun f s W m n p r u d => opv rfl rfl (by simp [go_sem, d.e 8 ((r 5 8 rfl rfl).trans k9_8)]) rfl,
    fun f s W m n p r u d => opv rfl rfl (by simp [go_sem, d.e 10 k9_10]) rfl,
    fun f s W m n p r u d => by have y := below_trans fB9 m; exact opDo_call (args := #[.agg #[.int .i64 ((nm : Int)), .slice (some ⟨bc, oc, none⟩) (2) (cc), .slice (sa) (ns) (sc), .slice (some ⟨bj, oj, none⟩) (nj) (cj)], .int .i64 ((k : Int)), .int .i64 (max ((passF (freeK ns x) (chK CH) (js i) l k).at_) ((((passF (freeK ns x) (chK CH) (js i) l k).ln k).dn) + (chK CH kq_ (js i).kd))), .int .i64 ((elT (js i).ms k))]) rfl rfl (by simp [go_sem, d.e 52 (n 0 rfl), d.e 53 (n 1 rfl), d.e 54 (n 2 rfl), d.e 55 (n 3 rfl)]) (free_any nm ns nj x bc oc cc bs os_ sc bj oj cj sa (k : Int) (max ((passF (freeK ns x) (chK CH) (js i) l k).at_) ((((passF (freeK ns x) (chK CH) (js i) l k).ln k).dn) + (chK CH kq_ (js i).kd))) (elT (js i).ms k) W (by omega) (by rw [← hat_]; omega) (by omega) hF.nsB (hM.s.below y) hF.xt) ((fun e W' h => by have h1 := h.1; rw [show freeF ns x (k : Int) (max ((passF (freeK ns x) (chK CH) (js i) l k).at_) ((((passF (freeK ns x) (chK CH) (js i) l k).ln k).dn) + (chK CH kq_ (js i).kd))) (elT (js i).ms k) = am_ by rw [← hat_]; exact ham_] at h1; exact ⟨_, h1, h.2, rfl⟩)),
    fun f s W m n p r u d => opv rfl rfl (by simp [go_sem, d.e 56 (n 4 rfl)]) rfl, trivial⟩ ?_
        intro f10 s10 W10 hB10 g10 hg10
        have fB10 := hB10.f fB9
        have z10 := hB10.below.size
        have b10_0 := hB10.b b9_0
        have b10_1 := hB10.b b9_1
        have q36' := (KeepX.trans q32' (KeepX.of_below hB10.below))
        have q37' := (TabV.below q33' hB10.below)
        have q38' := (OwnN.below q34' hB10.below)
        have q39' := (LimB.below q35' hB10.below)
        refine hK17 _ _ ?_
        have k10_1 := kt hg10 1 k9_1
        have k10_3 := kt hg10 3 k9_3
        have k10_5 := kt hg10 5 k9_5
        have k10_7 := kt hg10 7 k9_7
        have k10_15 := kt hg10 15 k9_15
        have k10_16 := kt hg10 16 k9_16
        have k10_17 := kt hg10 17 k9_17
        have k10_6 := kt hg10 6 k9_6
        have k10_9 := kt hg10 9 k9_9
        have k10_10 := kt hg10 10 k9_10
        have k10_8 := kt hg10 8 (hB10.is 5)
        have hq0_ : lineV (setL (passF (freeK ns x) (chK CH) (js i) l k).ln k ⟨am_ + elT (js i).ms k, (js i).kd, true⟩) (k * 3) = .int .i64 (am_ + elT (js i).ms k) := by rw [lineV_0, setL_same]
        have hq1_ : lineV (setL (passF (freeK ns x) (chK CH) (js i) l k).ln k ⟨am_ + elT (js i).ms k, (js i).kd, true⟩) (k * 3 + 1) = .int .i64 ((js i).kd : Int) := by rw [lineV_1, setL_same]
        have hq2_ : lineV (setL (passF (freeK ns x) (chK CH) (js i) l k).ln k ⟨am_ + elT (js i).ms k, (js i).kd, true⟩) (k * 3 + 2) = .bool true := by rw [lineV_2, setL_same]
        obtain ⟨nf_, hnf_⟩ : ∃ f, lineV (setL (passF (freeK ns x) (chK CH) (js i) l k).ln k ⟨am_ + elT (js i).ms k, (js i).kd, true⟩) = f := ⟨_, rfl⟩
        rw [hnf_] at hq0_ hq1_ hq2_
        obtain ⟨of_, hof_⟩ : ∃ f, lineV (passF (freeK ns x) (chK CH) (js i) l k).ln = f := ⟨_, rfl⟩
        have hTo_ := q37'
        rw [hof_] at hTo_
        obtain ⟨Ps_, hPs_⟩ : ∃ l, mixL 147 12 of_ nf_ bl [k * 3, k * 3 + 1, k * 3 + 2] = l := ⟨_, rfl⟩
        have hst_ : StayB Ps_ := hPs_ ▸ mixL_stay _ _ _ _ _ _
        have hbl_ : ∀ a b, Below a.heap.size a b → LeX (fun k => k = bl) Ps_ a b := LeX.of_below hst_
        have nb_s10 : ¬ ((s1 0) = bl) := by omega
        have nb_s11 : ¬ ((s1 1) = bl) := by omega
        refine region_doL (LeX (fun k => k = bl) Ps_) LeX.refl (LeX.drew hst_) LeX.trans (fun _ _ h => h.size) 23 [(57, 0), (58, 1), (59, 2), (60, 3), (61, 4), (62, 5), (63, 6), (64, 7), (65, 8), (66, 9), (67, 10), (68, 11), (69, 12), (70, 13), (71, 15), (72, 16), (73, 17), (74, 19), (75, 20), (76, 21)] [[], [], [], [], [], [], [], [], [6, 7], [], [9], [0], [0, 1, 6, 7, 8, 11], [0, 1, 6, 7, 8, 11, 12], [0, 1, 6, 7, 8, 11, 12, 13], [2], [0, 1, 2, 3, 6, 7, 8, 9, 10, 11, 12, 13, 14, 15], [0, 1, 2, 3, 6, 7, 8, 9, 10, 11, 12, 13, 14, 15, 16], [0, 1, 2, 3, 6, 7, 8, 9, 10, 11, 12, 13, 14, 15, 16, 17], [4], [0, 1, 2, 3, 4, 5, 6, 7, 8, 9, 10, 11, 12, 13, 14, 15, 16, 17, 18, 19], [0, 1, 2, 3, 4, 5, 6, 7, 8, 9, 10, 11, 12, 13, 14, 15, 16, 17, 18, 19, 20], [0, 1, 2, 3, 4, 5, 6, 7, 8, 9, 10, 11, 12, 13, 14, 15, 16, 17, 18, 19, 20, 21]] (rel [is (.pointer (some ⟨bl, 0, none⟩)),
      is (.int .i64 ((k : Int))),
      is (.pointer (some ⟨bl, 0, none⟩)),
      is (.int .i64 ((k : Int))),
      is (.pointer (some ⟨bl, 0, none⟩)),
      is (.int .i64 ((k : Int))),
      is (.int .i64 am_),
      is (.int .i64 ((elT (js i).ms k))),
      is (.int .i64 (am_ + (elT (js i).ms k))),
      is (.pointer (some ⟨(s1 1), 0, none⟩)),
      is (.int .i64 (((js i).kd : Int))),
      is (.pointer (some ⟨bl, 0, none⟩)),
      is (.pointer (some ⟨bl, k * 3, none⟩)),
      is (.pointer (some ⟨bl, k * 3, none⟩)),
      fun _ _ W => MixV 147 12 of_ nf_ bl [k * 3] W,
      is (.pointer (some ⟨bl, 0, none⟩)),
      is (.pointer (some ⟨bl, k * 3, none⟩)),
      is (.pointer (some ⟨bl, k * 3 + 1, none⟩)),
      fun _ _ W => MixV 147 12 of_ nf_ bl [k * 3 + 1] W,
      is (.pointer (some ⟨bl, 0, none⟩)),
      is (.pointer (some ⟨bl, k * 3, none⟩)),
      is (.pointer (some ⟨bl, k * 3 + 2, none⟩)),
      fun _ _ W => MixV 147 12 of_ nf_ bl [k * 3 + 2] W]) (by kernel_rfl) (by kernel_rfl) (by kernel_rfl) (by kernel_rfl)
          ⟨is_kl, is_kl, is_kl, is_kl, is_kl, is_kl, is_kl, is_kl, is_kl, is_kl, is_kl, is_kl, is_kl, is_kl, (hPs_ ▸ mixV_k (by simp)), is_kl, is_kl, is_kl, (hPs_ ▸ mixV_k (by simp)), is_kl, is_kl, is_kl, (hPs_ ▸ mixV_k (by simp)), trivial⟩
          ⟨fun f s W m n p r u d => OpDo.l hbl_ (opv rfl rfl (by simp [go_sem, d.e 1 k10_1]) rfl),
    fun f s W m n p r u d => OpDo.l hbl_ (opv rfl rfl (by simp [go_sem, d.e 9 k10_9]) rfl),
    fun f s W m n p r u d => OpDo.l hbl_ (opv rfl rfl (by simp [go_sem, d.e 1 k10_1]) rfl),
    fun f s W m n p r u d => OpDo.l hbl_ (opv rfl rfl (by simp [go_sem, d.e 9 k10_9]) rfl),
    fun f s W m n p r u d => OpDo.l hbl_ (opv rfl rfl (by simp [go_sem, d.e 1 k10_1]) rfl),
    fun f s W m n p r u d => OpDo.l hbl_ (opv rfl rfl (by simp [go_sem, d.e 9 k10_9]) rfl),
    fun f s W m n p r u d => OpDo.l hbl_ (opv rfl rfl (by simp [go_sem, d.e 8 k10_8]) rfl),
    fun f s W m n p r u d => OpDo.l hbl_ (opv rfl rfl (by simp [go_sem, d.e 10 k10_10]) rfl),
    fun f s W m n p r u d => OpDo.l hbl_ (opv rfl rfl (by simp [go_sem, d.e 63 (n 6 rfl), d.e 64 (n 7 rfl), IntWalk.i64_in (am_ + (elT (js i).ms k)) (by omega)]) rfl),
    fun f s W m n p r u d => OpDo.l hbl_ (opv rfl rfl (by simp [go_sem, d.e 5 k10_5]) rfl),
    fun f s W m n p r u d => OpDo.l hbl_ (opv rfl rfl (by simp [go_sem, d.e 66 (n 9 rfl), cl (blk_x b10_1 m nb_s11) 0]) rfl),
    fun f s W m n p r u d => OpDo.l hbl_ (opv rfl rfl (by simp [go_sem, d.e 57 (n 0 rfl)]) rfl),
    fun f s W m n p r u d => OpDo.l hbl_ (by have li_ := Nat.not_le.2 (show k < 4 by omega); have li2_ : (k : Int) < 4 := (by omega); exact opv rfl rfl (by simp [go_sem, d.e 68 (n 11 rfl), d.e 58 (n 1 rfl), li_, li2_]) rfl),
    fun f s W m n p r u d => OpDo.l hbl_ (opv rfl rfl (by simp [go_sem, d.e 69 (n 12 rfl)]) rfl),
    fun f s W m n p r u d => by subst hPs_; exact stoV_do (j := k * 3) (by simp) (by omega) (m.stay _ (.head _) (mixV_start hTo_)) rfl ((d.v 70 (n 13 rfl))) (((d.v 65 (n 8 rfl))).trans hq0_.symm) (by kernel_rfl) (by rw [hq0_]; rfl) (by rw [hq0_]; rfl),
    fun f s W m n p r u d => OpDo.l hbl_ (opv rfl rfl (by simp [go_sem, d.e 59 (n 2 rfl)]) rfl),
    fun f s W m n p r u d => OpDo.l hbl_ (by have li_ := Nat.not_le.2 (show k < 4 by omega); have li2_ : (k : Int) < 4 := (by omega); exact opv rfl rfl (by simp [go_sem, d.e 71 (n 15 rfl), d.e 60 (n 3 rfl), li_, li2_]) rfl),
    fun f s W m n p r u d => OpDo.l hbl_ (opv rfl rfl (by simp [go_sem, d.e 72 (n 16 rfl)]) rfl),
    fun f s W m n p r u d => by subst hPs_; exact stoV_do (j := k * 3 + 1) (by simp) (by omega) (m.stay _ (.head _) (mixV_start hTo_)) rfl ((d.v 73 (n 17 rfl))) (((d.v 67 (n 10 rfl))).trans hq1_.symm) (by kernel_rfl) (by rw [hq1_]; rfl) (by rw [hq1_]; rfl),
    fun f s W m n p r u d => OpDo.l hbl_ (opv rfl rfl (by simp [go_sem, d.e 61 (n 4 rfl)]) rfl),
    fun f s W m n p r u d => OpDo.l hbl_ (by have li_ := Nat.not_le.2 (show k < 4 by omega); have li2_ : (k : Int) < 4 := (by omega); exact opv rfl rfl (by simp [go_sem, d.e 74 (n 19 rfl), d.e 62 (n 5 rfl), li_, li2_]) rfl),
    fun f s W m n p r u d => OpDo.l hbl_ (opv rfl rfl (by simp [go_sem, d.e 75 (n 20 rfl)]) rfl),
    fun f s W m n p r u d => by subst hPs_; exact stoV_do (j := k * 3 + 2) (by simp) (by omega) (m.stay _ (.head _) (mixV_start hTo_)) rfl ((d.v 76 (n 21 rfl))) ((rfl).trans hq2_.symm) (by kernel_rfl) (by rw [hq2_]; rfl) (by rw [hq2_]; rfl), trivial⟩ ?_
        intro f11 s11 W11 hB11
        have fB11 : Below w.heap.size w W11 := (fB10).trans (hB11.le.below (fB10).size (fun k e => by subst e; exact hbl))
        have z11 : W10.heap.size ≤ W11.heap.size := hB11.le.size
        have b11_0 := blk_x b10_0 hB11.le nb_s10
        have b11_1 := blk_x b10_1 hB11.le nb_s11
        have kl11 := leX_keepX hB11.le
        have tb11 : TabV 147 12 (lineV (setL (passF (freeK ns x) (chK CH) (js i) l k).ln k ⟨am_ + elT (js i).ms k, (js i).kd, true⟩)) bl W11 := hnf_ ▸ mixV_end (mixV_both (mixV_both (hB11.is 14) (hB11.is 18)) (hB11.is 22)) (fun i hi hn => by rw [← hof_, ← hnf_]; exact lineV_set _ _ _ hn)
        have kx11 := KeepX.trans q36' kl11
        have on11 := ownN_keep q38' (keepX_P kl11 rfl) (fun g e h => by have := (q39' g e).1; omega)
        have lm11 : LimB (aq) v1.heap.size W11 := fun g e => ⟨(q39' g e).1, Nat.lt_of_lt_of_le (q39' g e).2 z11⟩
        generalize hg11 : ov [(57, 0), (58, 1), (59, 2), (60, 3), (61, 4), (62, 5), (63, 6), (64, 7), (65, 8), (66, 9), (67, 10), (68, 11), (69, 12), (70, 13), (71, 15), (72, 16), (73, 17), (74, 19), (75, 20), (76, 21)] f11 g10 = g11
        have k11_1 := kt hg11 1 k10_1
        have k11_3 := kt hg11 3 k10_3
        have k11_5 := kt hg11 5 k10_5
        have k11_7 := kt hg11 7 k10_7
        have k11_15 := kt hg11 15 k10_15
        have k11_16 := kt hg11 16 k10_16
        have k11_17 := kt hg11 17 k10_17
        have k11_6 := kt hg11 6 k10_6
        have k11_10 := kt hg11 10 k10_10
        have k11_8 := kt hg11 8 k10_8
        refine wpOps_end ?_
        refine hK10 _ _ ?_
        refine wp_seq_k fun K18 hK18 => ?_
        refine region_dk 3 [(77, 0), (78, 1), (79, 2), (80, 3), (6, 4)] [[], [], [1], [0, 1, 2], [0, 1, 2, 3]] (rel [is (.slice (aq) (k) (cq)),
      is (.int .i64 am_),
      row 2 1 #[.int .i64 am_] 3])
          ⟨is_k, is_k, row_k, trivial⟩
          ⟨fun f s W m n p r u d => opv rfl rfl (by simp [go_sem, d.e 6 ((r 4 6 rfl rfl).trans k11_6)]) rfl,
    fun f s W m n p r u d => opv rfl rfl (by simp [go_sem, d.e 8 k11_8]) rfl,
    fun f s W m n p r u d => opr rfl rfl (by simp [go_sem, d.e 78 (n 1 rfl)]), trivial⟩ ?_
        intro f12 s12 W12 hB12 g12 hg12
        have fB12 := hB12.f fB11
        have z12 := hB12.below.size
        have b12_0 := hB12.b b11_0
        have b12_1 := hB12.b b11_1
        have q40' := (KeepX.trans kx11 (KeepX.of_below hB12.below))
        have q41' := (TabV.below tb11 hB12.below)
        have q42' := (OwnN.below on11 hB12.below)
        have q43' := (LimB.below lm11 hB12.below)
        obtain ⟨r12_2, br12_2⟩ := hB12.is 2
        have lr12_2 := hB12.lr 2 br12_2
        have k12_1 := kt hg12 1 k11_1
        have k12_3 := kt hg12 3 k11_3
        have k12_5 := kt hg12 5 k11_5
        have k12_7 := kt hg12 7 k11_7
        have k12_15 := kt hg12 15 k11_15
        have k12_16 := kt hg12 16 k11_16
        have k12_17 := kt hg12 17 k11_17
        have k12_10 := kt hg12 10 k11_10
        have k12_8 := kt hg12 8 k11_8
        have k12_77 := kt hg12 77 (hB12.is 0)
        have k12_79 := kt hg12 79 r12_2
        have zz13 : v1.heap.size ≤ W12.heap.size := by omega
        obtain ⟨ga13, ca13, W13, ra13, ow13, ot13, z13, gg13, fB13⟩ := growN_tail 25 25 3 1 8 _ (by kernel_rfl) da_infoI rfl (iis ((passF (freeK ns x) (chK CH) (js i) l k).st ++ [am_])) (k + 1) (off := 0) (k := 1) (c' := 1) [.int .i64 (am_)] fB12 q42' (iis_snoc' _ _) rfl rfl rfl (cells_at br12_2) (by omega)
        refine tail_value2 (o := _) rfl rfl rfl (run_appendOp (fr_ev k12_77) (fr_ev k12_79) ra13) ?_
        have b13_0 := ot13 _ _ (ownN_ne q42' b12_0) b12_0
        have b13_1 := ot13 _ _ (ownN_ne q42' b12_1) b12_1
        have nbl13 : ∀ g, aq = some ⟨g, 0, none⟩ → g ≠ bl := fun g e => by have := (q43' g e).1; omega
        have tb13 : TabV 147 12 (lineV (setL (passF (freeK ns x) (chK CH) (js i) l k).ln k ⟨am_ + elT (js i).ms k, (js i).kd, true⟩)) bl W13 := by obtain ⟨cs_, t1_, t2_⟩ := q41'; exact ⟨cs_, ot13 _ _ nbl13 t1_, t2_⟩
        have kx13 : KeepX bl v1 W13 := ⟨(fB13.os).trans (fB12.os.symm.trans q40'.os), (fB13.tape).trans (fB12.tape.symm.trans q40'.tape), (fB13.output).trans (fB12.output.symm.trans q40'.output), Nat.le_trans q40'.size z13, fun k o hk hx => ot13 _ _ (fun g e he => by have := (q43' g e).1; have := lt_of_blk hx; omega) (q40'.block k o hk hx)⟩
        have on13 : OwnN 3 1 w.heap.size (k + 1) (iis ((passF (freeK ns x) (chK CH) (js i) l k).st ++ [am_])) (some ⟨ga13, 0, none⟩) ca13 W13 := .inr ⟨_, rfl, ow13⟩
        have lm13 : LimB ((some ⟨ga13, 0, none⟩ : Option Addr)) v1.heap.size W13 := fun g e => by cases e; rcases gg13 with gg | gg; exact ⟨(q43' _ gg).1, ow13.2.1⟩; exact ⟨by omega, ow13.2.1⟩
        generalize hg13 : upd g12 80 (.slice (some ⟨ga13, 0, none⟩) ((k + 1)) (ca13)) = g13
        have k13_1 := ku hg13 1 k12_1
        have k13_3 := ku hg13 3 k12_3
        have k13_5 := ku hg13 5 k12_5
        have k13_7 := ku hg13 7 k12_7
        have k13_15 := ku hg13 15 k12_15
        have k13_16 := ku hg13 16 k12_16
        have k13_17 := ku hg13 17 k12_17
        have k13_10 := ku hg13 10 k12_10
        have k13_8 := ku hg13 8 k12_8
        have k13_80 := kt hg13 80 (upd_same _ _ _)
        refine tail_value (o := _) rfl rfl rfl (v := .slice (some ⟨ga13, 0, none⟩) ((k + 1)) (ca13)) (by simp [go_sem, frv 87 k13_80]) ?_
        generalize hg14 : upd g13 6 (.slice (some ⟨ga13, 0, none⟩) ((k + 1)) (ca13)) = g14
        have k14_1 := ku hg14 1 k13_1
        have k14_3 := ku hg14 3 k13_3
        have k14_5 := ku hg14 5 k13_5
        have k14_7 := ku hg14 7 k13_7
        have k14_15 := ku hg14 15 k13_15
        have k14_16 := ku hg14 16 k13_16
        have k14_17 := ku hg14 17 k13_17
        have k14_10 := ku hg14 10 k13_10
        have k14_8 := ku hg14 8 k13_8
        have k14_6 := kt hg14 6 (upd_same _ _ _)
        refine wpOps_end ?_
        refine hK18 _ _ ?_
        refine region_dk 4 [(81, 0), (82, 1), (83, 2), (8, 3)] [[], [], [0, 1], [0, 1, 2]] (rel [is (.int .i64 am_),
      is (.int .i64 ((elT (js i).ms k))),
      is (.int .i64 (am_ + (elT (js i).ms k))),
      is (.int .i64 (am_ + (elT (js i).ms k)))])
          ⟨is_k, is_k, is_k, is_k, trivial⟩
          ⟨fun f s W m n p r u d => opv rfl rfl (by simp [go_sem, d.e 8 ((r 3 8 rfl rfl).trans k14_8)]) rfl,
    fun f s W m n p r u d => opv rfl rfl (by simp [go_sem, d.e 10 k14_10]) rfl,
    fun f s W m n p r u d => opv rfl rfl (by simp [go_sem, d.e 81 (n 0 rfl), d.e 82 (n 1 rfl), IntWalk.i64_in (am_ + (elT (js i).ms k)) (by omega)]) rfl,
    fun f s W m n p r u d => opv rfl rfl (by simp [go_sem, d.e 83 (n 2 rfl)]) rfl, trivial⟩ ?_
        intro f15 s15 W15 hB15 g15 hg15
        have fB15 := hB15.f fB13
        have z15 := hB15.below.size
        have b15_0 := hB15.b b13_0
        have b15_1 := hB15.b b13_1
        have q44' := (KeepX.trans kx13 (KeepX.of_below hB15.below))
        have q45' := (TabV.below tb13 hB15.below)
        have q46' := (OwnN.below on13 hB15.below)
        have q47' := (LimB.below lm13 hB15.below)
        refine wpOps_end ?_
        have k15_1 := kt hg15 1 k14_1
        have k15_3 := kt hg15 3 k14_3
        have k15_5 := kt hg15 5 k14_5
        have k15_7 := kt hg15 7 k14_7
        have k15_15 := kt hg15 15 k14_15
        have k15_16 := kt hg15 16 k14_16
        have k15_17 := kt hg15 17 k14_17
        have k15_6 := kt hg15 6 k14_6
        have k15_8 := kt hg15 8 (hB15.is 3)
        refine inBlock_normal ?_
        refine hK8 _ _ ?_
        refine region_dk 2 [(84, 0), (17, 1)] [[], [0]] (rel [is (.int .i64 ((k : Int) + 1)),
      is (.int .i64 ((k : Int) + 1))])
          ⟨is_k, is_k, trivial⟩
          ⟨fun f s W m n p r u d => opv rfl rfl (by simp [go_sem, d.e 17 ((r 1 17 rfl rfl).trans k15_17), IntWalk.i64_in ((k : Int) + 1) (by omega)]) rfl,
    fun f s W m n p r u d => opv rfl rfl (by simp [go_sem, d.e 84 (n 0 rfl)]) rfl, trivial⟩ ?_
        intro f16 s16 W16 hB16 g16 hg16
        have fB16 := hB16.f fB15
        have z16 := hB16.below.size
        have b16_0 := hB16.b b15_0
        have b16_1 := hB16.b b15_1
        have q48' := (KeepX.trans q44' (KeepX.of_below hB16.below))
        have q49' := (TabV.below q45' hB16.below)
        have q50' := (OwnN.below q46' hB16.below)
        have q51' := (LimB.below q47' hB16.below)
        refine wpOps_end ?_
        have k16_1 := kt hg16 1 k15_1
        have k16_3 := kt hg16 3 k15_3
        have k16_5 := kt hg16 5 k15_5
        have k16_7 := kt hg16 7 k15_7
        have k16_15 := kt hg16 15 k15_15
        have k16_16 := kt hg16 16 k15_16
        have k16_6 := kt hg16 6 k15_6
        have k16_8 := kt hg16 8 k15_8
        have k16_17 := kt hg16 17 (hB16.is 1)
        refine then_normal ?_
        exact ⟨_, by omega, g16, rfl, k + 1, (some ⟨ga13, 0, none⟩), ca13, rfl, k16_1, k16_3, k16_5, k16_7, k16_15, k16_16, k16_17.trans (by go_num), k16_6.trans (by go_num), k16_8.trans (by rw [hps_]), fB16, (by omega), b16_0, b16_1, q48', (by rw [hps_]; exact q49'), (by rw [hps_]; exact q50'), q51', (by omega)⟩
      ·
        have hc16' := hc16; try simp only [ba] at hc16'
        have hat_ : atA (passF (freeK ns x) (chK CH) (js i) l k).ln (chK CH) (js i).kd k (passF (freeK ns x) (chK CH) (js i) l k).at_ = (passF (freeK ns x) (chK CH) (js i) l k).at_ := by rw [atA, hc16, hkq_]; rfl
        refine wp_skip ?_
        refine hK13 _ _ ?_
        refine wp_seq_k fun K19 hK19 => ?_
        refine region_dk 6 [(52, 0), (53, 1), (54, 2), (55, 3), (56, 4), (8, 5)] [[], [], [], [], [0, 1, 2, 3], [0, 1, 2, 3, 4]] (rel [is (.agg #[.int .i64 ((nm : Int)), .slice (some ⟨bc, oc, none⟩) (2) (cc), .slice (sa) (ns) (sc), .slice (some ⟨bj, oj, none⟩) (nj) (cj)]),
      is (.int .i64 ((k : Int))),
      is (.int .i64 ((passF (freeK ns x) (chK CH) (js i) l k).at_)),
      is (.int .i64 ((elT (js i).ms k))),
      is (.int .i64 am_),
      is (.int .i64 am_)])
          ⟨is_k, is_k, is_k, is_k, is_k, is_k, trivial⟩
          ⟨fun f s W m n p r u d => opl rfl rfl rfl (d.v 3 k8_3) (blk_below b8_0 m) Try.underlying94 rfl (by kernel_rfl) rfl,
    fun f s W m n p r u d => opv rfl rfl (by simp [go_sem, d.e 9 k8_9]) rfl,
    fun f s W m n p r u d => opv rfl rfl (by simp [go_sem, d.e 8 ((r 5 8 rfl rfl).trans k8_8)]) rfl,
    fun f s W m n p r u d => opv rfl rfl (by simp [go_sem, d.e 10 k8_10]) rfl,
    fun f s W m n p r u d => by have y := below_trans fB8 m; exact opDo_call (args := #[.agg #[.int .i64 ((nm : Int)), .slice (some ⟨bc, oc, none⟩) (2) (cc), .slice (sa) (ns) (sc), .slice (some ⟨bj, oj, none⟩) (nj) (cj)], .int .i64 ((k : Int)), .int .i64 ((passF (freeK ns x) (chK CH) (js i) l k).at_), .int .i64 ((elT (js i).ms k))]) rfl rfl (by simp [go_sem, d.e 52 (n 0 rfl), d.e 53 (n 1 rfl), d.e 54 (n 2 rfl), d.e 55 (n 3 rfl)]) (free_any nm ns nj x bc oc cc bs os_ sc bj oj cj sa (k : Int) ((passF (freeK ns x) (chK CH) (js i) l k).at_) (elT (js i).ms k) W (by omega) (by rw [← hat_]; omega) (by omega) hF.nsB (hM.s.below y) hF.xt) ((fun e W' h => by have h1 := h.1; rw [show freeF ns x (k : Int) ((passF (freeK ns x) (chK CH) (js i) l k).at_) (elT (js i).ms k) = am_ by rw [← hat_]; exact ham_] at h1; exact ⟨_, h1, h.2, rfl⟩)),
    fun f s W m n p r u d => opv rfl rfl (by simp [go_sem, d.e 56 (n 4 rfl)]) rfl, trivial⟩ ?_
        intro f17 s17 W17 hB17 g17 hg17
        have fB17 := hB17.f fB8
        have z17 := hB17.below.size
        have b17_0 := hB17.b b8_0
        have b17_1 := hB17.b b8_1
        have q52' := (KeepX.trans q28' (KeepX.of_below hB17.below))
        have q53' := (TabV.below q29' hB17.below)
        have q54' := (OwnN.below q30' hB17.below)
        have q55' := (LimB.below q31' hB17.below)
        refine hK19 _ _ ?_
        have k17_1 := kt hg17 1 k8_1
        have k17_3 := kt hg17 3 k8_3
        have k17_5 := kt hg17 5 k8_5
        have k17_7 := kt hg17 7 k8_7
        have k17_15 := kt hg17 15 k8_15
        have k17_16 := kt hg17 16 k8_16
        have k17_17 := kt hg17 17 k8_17
        have k17_6 := kt hg17 6 k8_6
        have k17_9 := kt hg17 9 k8_9
        have k17_10 := kt hg17 10 k8_10
        have k17_8 := kt hg17 8 (hB17.is 5)
        have hq0_ : lineV (setL (passF (freeK ns x) (chK CH) (js i) l k).ln k ⟨am_ + elT (js i).ms k, (js i).kd, true⟩) (k * 3) = .int .i64 (am_ + elT (js i).ms k) := by rw [lineV_0, setL_same]
        have hq1_ : lineV (setL (passF (freeK ns x) (chK CH) (js i) l k).ln k ⟨am_ + elT (js i).ms k, (js i).kd, true⟩) (k * 3 + 1) = .int .i64 ((js i).kd : Int) := by rw [lineV_1, setL_same]
        have hq2_ : lineV (setL (passF (freeK ns x) (chK CH) (js i) l k).ln k ⟨am_ + elT (js i).ms k, (js i).kd, true⟩) (k * 3 + 2) = .bool true := by rw [lineV_2, setL_same]
        obtain ⟨nf_, hnf_⟩ : ∃ f, lineV (setL (passF (freeK ns x) (chK CH) (js i) l k).ln k ⟨am_ + elT (js i).ms k, (js i).kd, true⟩) = f := ⟨_, rfl⟩
        rw [hnf_] at hq0_ hq1_ hq2_
        obtain ⟨of_, hof_⟩ : ∃ f, lineV (passF (freeK ns x) (chK CH) (js i) l k).ln = f := ⟨_, rfl⟩
        have hTo_ := q53'
        rw [hof_] at hTo_
        obtain ⟨Ps_, hPs_⟩ : ∃ l, mixL 147 12 of_ nf_ bl [k * 3, k * 3 + 1, k * 3 + 2] = l := ⟨_, rfl⟩
        have hst_ : StayB Ps_ := hPs_ ▸ mixL_stay _ _ _ _ _ _
        have hbl_ : ∀ a b, Below a.heap.size a b → LeX (fun k => k = bl) Ps_ a b := LeX.of_below hst_
        have nb_s10 : ¬ ((s1 0) = bl) := by omega
        have nb_s11 : ¬ ((s1 1) = bl) := by omega
        refine region_doL (LeX (fun k => k = bl) Ps_) LeX.refl (LeX.drew hst_) LeX.trans (fun _ _ h => h.size) 23 [(57, 0), (58, 1), (59, 2), (60, 3), (61, 4), (62, 5), (63, 6), (64, 7), (65, 8), (66, 9), (67, 10), (68, 11), (69, 12), (70, 13), (71, 15), (72, 16), (73, 17), (74, 19), (75, 20), (76, 21)] [[], [], [], [], [], [], [], [], [6, 7], [], [9], [0], [0, 1, 6, 7, 8, 11], [0, 1, 6, 7, 8, 11, 12], [0, 1, 6, 7, 8, 11, 12, 13], [2], [0, 1, 2, 3, 6, 7, 8, 9, 10, 11, 12, 13, 14, 15], [0, 1, 2, 3, 6, 7, 8, 9, 10, 11, 12, 13, 14, 15, 16], [0, 1, 2, 3, 6, 7, 8, 9, 10, 11, 12, 13, 14, 15, 16, 17], [4], [0, 1, 2, 3, 4, 5, 6, 7, 8, 9, 10, 11, 12, 13, 14, 15, 16, 17, 18, 19], [0, 1, 2, 3, 4, 5, 6, 7, 8, 9, 10, 11, 12, 13, 14, 15, 16, 17, 18, 19, 20], [0, 1, 2, 3, 4, 5, 6, 7, 8, 9, 10, 11, 12, 13, 14, 15, 16, 17, 18, 19, 20, 21]] (rel [is (.pointer (some ⟨bl, 0, none⟩)),
      is (.int .i64 ((k : Int))),
      is (.pointer (some ⟨bl, 0, none⟩)),
      is (.int .i64 ((k : Int))),
      is (.pointer (some ⟨bl, 0, none⟩)),
      is (.int .i64 ((k : Int))),
      is (.int .i64 am_),
      is (.int .i64 ((elT (js i).ms k))),
      is (.int .i64 (am_ + (elT (js i).ms k))),
      is (.pointer (some ⟨(s1 1), 0, none⟩)),
      is (.int .i64 (((js i).kd : Int))),
      is (.pointer (some ⟨bl, 0, none⟩)),
      is (.pointer (some ⟨bl, k * 3, none⟩)),
      is (.pointer (some ⟨bl, k * 3, none⟩)),
      fun _ _ W => MixV 147 12 of_ nf_ bl [k * 3] W,
      is (.pointer (some ⟨bl, 0, none⟩)),
      is (.pointer (some ⟨bl, k * 3, none⟩)),
      is (.pointer (some ⟨bl, k * 3 + 1, none⟩)),
      fun _ _ W => MixV 147 12 of_ nf_ bl [k * 3 + 1] W,
      is (.pointer (some ⟨bl, 0, none⟩)),
      is (.pointer (some ⟨bl, k * 3, none⟩)),
      is (.pointer (some ⟨bl, k * 3 + 2, none⟩)),
      fun _ _ W => MixV 147 12 of_ nf_ bl [k * 3 + 2] W]) (by kernel_rfl) (by kernel_rfl) (by kernel_rfl) (by kernel_rfl)
          ⟨is_kl, is_kl, is_kl, is_kl, is_kl, is_kl, is_kl, is_kl, is_kl, is_kl, is_kl, is_kl, is_kl, is_kl, (hPs_ ▸ mixV_k (by simp)), is_kl, is_kl, is_kl, (hPs_ ▸ mixV_k (by simp)), is_kl, is_kl, is_kl, (hPs_ ▸ mixV_k (by simp)), trivial⟩
          ⟨fun f s W m n p r u d => OpDo.l hbl_ (opv rfl rfl (by simp [go_sem, d.e 1 k17_1]) rfl),
    fun f s W m n p r u d => OpDo.l hbl_ (opv rfl rfl (by simp [go_sem, d.e 9 k17_9]) rfl),
    fun f s W m n p r u d => OpDo.l hbl_ (opv rfl rfl (by simp [go_sem, d.e 1 k17_1]) rfl),
    fun f s W m n p r u d => OpDo.l hbl_ (opv rfl rfl (by simp [go_sem, d.e 9 k17_9]) rfl),
    fun f s W m n p r u d => OpDo.l hbl_ (opv rfl rfl (by simp [go_sem, d.e 1 k17_1]) rfl),
    fun f s W m n p r u d => OpDo.l hbl_ (opv rfl rfl (by simp [go_sem, d.e 9 k17_9]) rfl),
    fun f s W m n p r u d => OpDo.l hbl_ (opv rfl rfl (by simp [go_sem, d.e 8 k17_8]) rfl),
    fun f s W m n p r u d => OpDo.l hbl_ (opv rfl rfl (by simp [go_sem, d.e 10 k17_10]) rfl),
    fun f s W m n p r u d => OpDo.l hbl_ (opv rfl rfl (by simp [go_sem, d.e 63 (n 6 rfl), d.e 64 (n 7 rfl), IntWalk.i64_in (am_ + (elT (js i).ms k)) (by omega)]) rfl),
    fun f s W m n p r u d => OpDo.l hbl_ (opv rfl rfl (by simp [go_sem, d.e 5 k17_5]) rfl),
    fun f s W m n p r u d => OpDo.l hbl_ (opv rfl rfl (by simp [go_sem, d.e 66 (n 9 rfl), cl (blk_x b17_1 m nb_s11) 0]) rfl),
    fun f s W m n p r u d => OpDo.l hbl_ (opv rfl rfl (by simp [go_sem, d.e 57 (n 0 rfl)]) rfl),
    fun f s W m n p r u d => OpDo.l hbl_ (by have li_ := Nat.not_le.2 (show k < 4 by omega); have li2_ : (k : Int) < 4 := (by omega); exact opv rfl rfl (by simp [go_sem, d.e 68 (n 11 rfl), d.e 58 (n 1 rfl), li_, li2_]) rfl),
    fun f s W m n p r u d => OpDo.l hbl_ (opv rfl rfl (by simp [go_sem, d.e 69 (n 12 rfl)]) rfl),
    fun f s W m n p r u d => by subst hPs_; exact stoV_do (j := k * 3) (by simp) (by omega) (m.stay _ (.head _) (mixV_start hTo_)) rfl ((d.v 70 (n 13 rfl))) (((d.v 65 (n 8 rfl))).trans hq0_.symm) (by kernel_rfl) (by rw [hq0_]; rfl) (by rw [hq0_]; rfl),
    fun f s W m n p r u d => OpDo.l hbl_ (opv rfl rfl (by simp [go_sem, d.e 59 (n 2 rfl)]) rfl),
    fun f s W m n p r u d => OpDo.l hbl_ (by have li_ := Nat.not_le.2 (show k < 4 by omega); have li2_ : (k : Int) < 4 := (by omega); exact opv rfl rfl (by simp [go_sem, d.e 71 (n 15 rfl), d.e 60 (n 3 rfl), li_, li2_]) rfl),
    fun f s W m n p r u d => OpDo.l hbl_ (opv rfl rfl (by simp [go_sem, d.e 72 (n 16 rfl)]) rfl),
    fun f s W m n p r u d => by subst hPs_; exact stoV_do (j := k * 3 + 1) (by simp) (by omega) (m.stay _ (.head _) (mixV_start hTo_)) rfl ((d.v 73 (n 17 rfl))) (((d.v 67 (n 10 rfl))).trans hq1_.symm) (by kernel_rfl) (by rw [hq1_]; rfl) (by rw [hq1_]; rfl),
    fun f s W m n p r u d => OpDo.l hbl_ (opv rfl rfl (by simp [go_sem, d.e 61 (n 4 rfl)]) rfl),
    fun f s W m n p r u d => OpDo.l hbl_ (by have li_ := Nat.not_le.2 (show k < 4 by omega); have li2_ : (k : Int) < 4 := (by omega); exact opv rfl rfl (by simp [go_sem, d.e 74 (n 19 rfl), d.e 62 (n 5 rfl), li_, li2_]) rfl),
    fun f s W m n p r u d => OpDo.l hbl_ (opv rfl rfl (by simp [go_sem, d.e 75 (n 20 rfl)]) rfl),
    fun f s W m n p r u d => by subst hPs_; exact stoV_do (j := k * 3 + 2) (by simp) (by omega) (m.stay _ (.head _) (mixV_start hTo_)) rfl ((d.v 76 (n 21 rfl))) ((rfl).trans hq2_.symm) (by kernel_rfl) (by rw [hq2_]; rfl) (by rw [hq2_]; rfl), trivial⟩ ?_
        intro f18 s18 W18 hB18
        have fB18 : Below w.heap.size w W18 := (fB17).trans (hB18.le.below (fB17).size (fun k e => by subst e; exact hbl))
        have z18 : W17.heap.size ≤ W18.heap.size := hB18.le.size
        have b18_0 := blk_x b17_0 hB18.le nb_s10
        have b18_1 := blk_x b17_1 hB18.le nb_s11
        have kl18 := leX_keepX hB18.le
        have tb18 : TabV 147 12 (lineV (setL (passF (freeK ns x) (chK CH) (js i) l k).ln k ⟨am_ + elT (js i).ms k, (js i).kd, true⟩)) bl W18 := hnf_ ▸ mixV_end (mixV_both (mixV_both (hB18.is 14) (hB18.is 18)) (hB18.is 22)) (fun i hi hn => by rw [← hof_, ← hnf_]; exact lineV_set _ _ _ hn)
        have kx18 := KeepX.trans q52' kl18
        have on18 := ownN_keep q54' (keepX_P kl18 rfl) (fun g e h => by have := (q55' g e).1; omega)
        have lm18 : LimB (aq) v1.heap.size W18 := fun g e => ⟨(q55' g e).1, Nat.lt_of_lt_of_le (q55' g e).2 z18⟩
        generalize hg18 : ov [(57, 0), (58, 1), (59, 2), (60, 3), (61, 4), (62, 5), (63, 6), (64, 7), (65, 8), (66, 9), (67, 10), (68, 11), (69, 12), (70, 13), (71, 15), (72, 16), (73, 17), (74, 19), (75, 20), (76, 21)] f18 g17 = g18
        have k18_1 := kt hg18 1 k17_1
        have k18_3 := kt hg18 3 k17_3
        have k18_5 := kt hg18 5 k17_5
        have k18_7 := kt hg18 7 k17_7
        have k18_15 := kt hg18 15 k17_15
        have k18_16 := kt hg18 16 k17_16
        have k18_17 := kt hg18 17 k17_17
        have k18_6 := kt hg18 6 k17_6
        have k18_10 := kt hg18 10 k17_10
        have k18_8 := kt hg18 8 k17_8
        refine wpOps_end ?_
        refine hK10 _ _ ?_
        refine wp_seq_k fun K20 hK20 => ?_
        refine region_dk 3 [(77, 0), (78, 1), (79, 2), (80, 3), (6, 4)] [[], [], [1], [0, 1, 2], [0, 1, 2, 3]] (rel [is (.slice (aq) (k) (cq)),
      is (.int .i64 am_),
      row 2 1 #[.int .i64 am_] 3])
          ⟨is_k, is_k, row_k, trivial⟩
          ⟨fun f s W m n p r u d => opv rfl rfl (by simp [go_sem, d.e 6 ((r 4 6 rfl rfl).trans k18_6)]) rfl,
    fun f s W m n p r u d => opv rfl rfl (by simp [go_sem, d.e 8 k18_8]) rfl,
    fun f s W m n p r u d => opr rfl rfl (by simp [go_sem, d.e 78 (n 1 rfl)]), trivial⟩ ?_
        intro f19 s19 W19 hB19 g19 hg19
        have fB19 := hB19.f fB18
        have z19 := hB19.below.size
        have b19_0 := hB19.b b18_0
        have b19_1 := hB19.b b18_1
        have q56' := (KeepX.trans kx18 (KeepX.of_below hB19.below))
        have q57' := (TabV.below tb18 hB19.below)
        have q58' := (OwnN.below on18 hB19.below)
        have q59' := (LimB.below lm18 hB19.below)
        obtain ⟨r19_2, br19_2⟩ := hB19.is 2
        have lr19_2 := hB19.lr 2 br19_2
        have k19_1 := kt hg19 1 k18_1
        have k19_3 := kt hg19 3 k18_3
        have k19_5 := kt hg19 5 k18_5
        have k19_7 := kt hg19 7 k18_7
        have k19_15 := kt hg19 15 k18_15
        have k19_16 := kt hg19 16 k18_16
        have k19_17 := kt hg19 17 k18_17
        have k19_10 := kt hg19 10 k18_10
        have k19_8 := kt hg19 8 k18_8
        have k19_77 := kt hg19 77 (hB19.is 0)
        have k19_79 := kt hg19 79 r19_2
        have zz20 : v1.heap.size ≤ W19.heap.size := by omega
        obtain ⟨ga20, ca20, W20, ra20, ow20, ot20, z20, gg20, fB20⟩ := growN_tail 25 25 3 1 8 _ (by kernel_rfl) da_infoI rfl (iis ((passF (freeK ns x) (chK CH) (js i) l k).st ++ [am_])) (k + 1) (off := 0) (k := 1) (c' := 1) [.int .i64 (am_)] fB19 q58' (iis_snoc' _ _) rfl rfl rfl (cells_at br19_2) (by omega)
        refine tail_value2 (o := _) rfl rfl rfl (run_appendOp (fr_ev k19_77) (fr_ev k19_79) ra20) ?_
        have b20_0 := ot20 _ _ (ownN_ne q58' b19_0) b19_0
        have b20_1 := ot20 _ _ (ownN_ne q58' b19_1) b19_1
        have nbl20 : ∀ g, aq = some ⟨g, 0, none⟩ → g ≠ bl := fun g e => by have := (q59' g e).1; omega
        have tb20 : TabV 147 12 (lineV (setL (passF (freeK ns x) (chK CH) (js i) l k).ln k ⟨am_ + elT (js i).ms k, (js i).kd, true⟩)) bl W20 := by obtain ⟨cs_, t1_, t2_⟩ := q57'; exact ⟨cs_, ot20 _ _ nbl20 t1_, t2_⟩
        have kx20 : KeepX bl v1 W20 := ⟨(fB20.os).trans (fB19.os.symm.trans q56'.os), (fB20.tape).trans (fB19.tape.symm.trans q56'.tape), (fB20.output).trans (fB19.output.symm.trans q56'.output), Nat.le_trans q56'.size z20, fun k o hk hx => ot20 _ _ (fun g e he => by have := (q59' g e).1; have := lt_of_blk hx; omega) (q56'.block k o hk hx)⟩
        have on20 : OwnN 3 1 w.heap.size (k + 1) (iis ((passF (freeK ns x) (chK CH) (js i) l k).st ++ [am_])) (some ⟨ga20, 0, none⟩) ca20 W20 := .inr ⟨_, rfl, ow20⟩
        have lm20 : LimB ((some ⟨ga20, 0, none⟩ : Option Addr)) v1.heap.size W20 := fun g e => by cases e; rcases gg20 with gg | gg; exact ⟨(q59' _ gg).1, ow20.2.1⟩; exact ⟨by omega, ow20.2.1⟩
        generalize hg20 : upd g19 80 (.slice (some ⟨ga20, 0, none⟩) ((k + 1)) (ca20)) = g20
        have k20_1 := ku hg20 1 k19_1
        have k20_3 := ku hg20 3 k19_3
        have k20_5 := ku hg20 5 k19_5
        have k20_7 := ku hg20 7 k19_7
        have k20_15 := ku hg20 15 k19_15
        have k20_16 := ku hg20 16 k19_16
        have k20_17 := ku hg20 17 k19_17
        have k20_10 := ku hg20 10 k19_10
        have k20_8 := ku hg20 8 k19_8
        have k20_80 := kt hg20 80 (upd_same _ _ _)
        refine tail_value (o := _) rfl rfl rfl (v := .slice (some ⟨ga20, 0, none⟩) ((k + 1)) (ca20)) (by simp [go_sem, frv 87 k20_80]) ?_
        generalize hg21 : upd g20 6 (.slice (some ⟨ga20, 0, none⟩) ((k + 1)) (ca20)) = g21
        have k21_1 := ku hg21 1 k20_1
        have k21_3 := ku hg21 3 k20_3
        have k21_5 := ku hg21 5 k20_5
        have k21_7 := ku hg21 7 k20_7
        have k21_15 := ku hg21 15 k20_15
        have k21_16 := ku hg21 16 k20_16
        have k21_17 := ku hg21 17 k20_17
        have k21_10 := ku hg21 10 k20_10
        have k21_8 := ku hg21 8 k20_8
        have k21_6 := kt hg21 6 (upd_same _ _ _)
        refine wpOps_end ?_
        refine hK20 _ _ ?_
        refine region_dk 4 [(81, 0), (82, 1), (83, 2), (8, 3)] [[], [], [0, 1], [0, 1, 2]] (rel [is (.int .i64 am_),
      is (.int .i64 ((elT (js i).ms k))),
      is (.int .i64 (am_ + (elT (js i).ms k))),
      is (.int .i64 (am_ + (elT (js i).ms k)))])
          ⟨is_k, is_k, is_k, is_k, trivial⟩
          ⟨fun f s W m n p r u d => opv rfl rfl (by simp [go_sem, d.e 8 ((r 3 8 rfl rfl).trans k21_8)]) rfl,
    fun f s W m n p r u d => opv rfl rfl (by simp [go_sem, d.e 10 k21_10]) rfl,
    fun f s W m n p r u d => opv rfl rfl (by simp [go_sem, d.e 81 (n 0 rfl), d.e 82 (n 1 rfl), IntWalk.i64_in (am_ + (elT (js i).ms k)) (by omega)]) rfl,
    fun f s W m n p r u d => opv rfl rfl (by simp [go_sem, d.e 83 (n 2 rfl)]) rfl, trivial⟩ ?_
        intro f22 s22 W22 hB22 g22 hg22
        have fB22 := hB22.f fB20
        have z22 := hB22.below.size
        have b22_0 := hB22.b b20_0
        have b22_1 := hB22.b b20_1
        have q60' := (KeepX.trans kx20 (KeepX.of_below hB22.below))
        have q61' := (TabV.below tb20 hB22.below)
        have q62' := (OwnN.below on20 hB22.below)
        have q63' := (LimB.below lm20 hB22.below)
        refine wpOps_end ?_
        have k22_1 := kt hg22 1 k21_1
        have k22_3 := kt hg22 3 k21_3
        have k22_5 := kt hg22 5 k21_5
        have k22_7 := kt hg22 7 k21_7
        have k22_15 := kt hg22 15 k21_15
        have k22_16 := kt hg22 16 k21_16
        have k22_17 := kt hg22 17 k21_17
        have k22_6 := kt hg22 6 k21_6
        have k22_8 := kt hg22 8 (hB22.is 3)
        refine inBlock_normal ?_
        refine hK8 _ _ ?_
        refine region_dk 2 [(84, 0), (17, 1)] [[], [0]] (rel [is (.int .i64 ((k : Int) + 1)),
      is (.int .i64 ((k : Int) + 1))])
          ⟨is_k, is_k, trivial⟩
          ⟨fun f s W m n p r u d => opv rfl rfl (by simp [go_sem, d.e 17 ((r 1 17 rfl rfl).trans k22_17), IntWalk.i64_in ((k : Int) + 1) (by omega)]) rfl,
    fun f s W m n p r u d => opv rfl rfl (by simp [go_sem, d.e 84 (n 0 rfl)]) rfl, trivial⟩ ?_
        intro f23 s23 W23 hB23 g23 hg23
        have fB23 := hB23.f fB22
        have z23 := hB23.below.size
        have b23_0 := hB23.b b22_0
        have b23_1 := hB23.b b22_1
        have q64' := (KeepX.trans q60' (KeepX.of_below hB23.below))
        have q65' := (TabV.below q61' hB23.below)
        have q66' := (OwnN.below q62' hB23.below)
        have q67' := (LimB.below q63' hB23.below)
        refine wpOps_end ?_
        have k23_1 := kt hg23 1 k22_1
        have k23_3 := kt hg23 3 k22_3
        have k23_5 := kt hg23 5 k22_5
        have k23_7 := kt hg23 7 k22_7
        have k23_15 := kt hg23 15 k22_15
        have k23_16 := kt hg23 16 k22_16
        have k23_6 := kt hg23 6 k22_6
        have k23_8 := kt hg23 8 k22_8
        have k23_17 := kt hg23 17 (hB23.is 1)
        refine then_normal ?_
        exact ⟨_, by omega, g23, rfl, k + 1, (some ⟨ga20, 0, none⟩), ca20, rfl, k23_1, k23_3, k23_5, k23_7, k23_15, k23_16, k23_17.trans (by go_num), k23_6.trans (by go_num), k23_8.trans (by rw [hps_]), fB23, (by omega), b23_0, b23_1, q64', (by rw [hps_]; exact q65'), (by rw [hps_]; exact q66'), q67', (by omega)⟩
    ·
      have hc12' := hc12; try simp only [ba] at hc12'
      have hn0_ : ¬ 0 < elT (js i).ms k := by omega
      have hps_ := pass_neg (fr := freeK ns x) (ch := chK CH) (j := js i) (l := l) hn0_
      refine wp_skip ?_
      refine hK10 _ _ ?_
      refine wp_seq_k fun K21 hK21 => ?_
      refine region_dk 3 [(77, 0), (78, 1), (79, 2), (80, 3), (6, 4)] [[], [], [1], [0, 1, 2], [0, 1, 2, 3]] (rel [is (.slice (aq) (k) (cq)),
      is (.int .i64 ((passF (freeK ns x) (chK CH) (js i) l k).at_)),
      row 2 1 #[.int .i64 ((passF (freeK ns x) (chK CH) (js i) l k).at_)] 3])
        ⟨is_k, is_k, row_k, trivial⟩
        ⟨fun f s W m n p r u d => opv rfl rfl (by simp [go_sem, d.e 6 ((r 4 6 rfl rfl).trans k6_6)]) rfl,
    fun f s W m n p r u d => opv rfl rfl (by simp [go_sem, d.e 8 k6_8]) rfl,
    fun f s W m n p r u d => opr rfl rfl (by simp [go_sem, d.e 78 (n 1 rfl)]), trivial⟩ ?_
      intro f24 s24 W24 hB24 g24 hg24
      have fB24 := hB24.f fB6
      have z24 := hB24.below.size
      have b24_0 := hB24.b b6_0
      have b24_1 := hB24.b b6_1
      have q68' := (KeepX.trans q20' (KeepX.of_below hB24.below))
      have q69' := (TabV.below q21' hB24.below)
      have q70' := (OwnN.below q22' hB24.below)
      have q71' := (LimB.below q23' hB24.below)
      obtain ⟨r24_2, br24_2⟩ := hB24.is 2
      have lr24_2 := hB24.lr 2 br24_2
      have k24_1 := kt hg24 1 k6_1
      have k24_3 := kt hg24 3 k6_3
      have k24_5 := kt hg24 5 k6_5
      have k24_7 := kt hg24 7 k6_7
      have k24_15 := kt hg24 15 k6_15
      have k24_16 := kt hg24 16 k6_16
      have k24_17 := kt hg24 17 k6_17
      have k24_8 := kt hg24 8 k6_8
      have k24_10 := kt hg24 10 k6_10
      have k24_77 := kt hg24 77 (hB24.is 0)
      have k24_79 := kt hg24 79 r24_2
      have zz25 : v1.heap.size ≤ W24.heap.size := by omega
      obtain ⟨ga25, ca25, W25, ra25, ow25, ot25, z25, gg25, fB25⟩ := growN_tail 25 25 3 1 8 _ (by kernel_rfl) da_infoI rfl (iis ((passF (freeK ns x) (chK CH) (js i) l k).st ++ [(passF (freeK ns x) (chK CH) (js i) l k).at_])) (k + 1) (off := 0) (k := 1) (c' := 1) [.int .i64 ((passF (freeK ns x) (chK CH) (js i) l k).at_)] fB24 q70' (iis_snoc' _ _) rfl rfl rfl (cells_at br24_2) (by omega)
      refine tail_value2 (o := _) rfl rfl rfl (run_appendOp (fr_ev k24_77) (fr_ev k24_79) ra25) ?_
      have b25_0 := ot25 _ _ (ownN_ne q70' b24_0) b24_0
      have b25_1 := ot25 _ _ (ownN_ne q70' b24_1) b24_1
      have nbl25 : ∀ g, aq = some ⟨g, 0, none⟩ → g ≠ bl := fun g e => by have := (q71' g e).1; omega
      have tb25 : TabV 147 12 (lineV (passF (freeK ns x) (chK CH) (js i) l k).ln) bl W25 := by obtain ⟨cs_, t1_, t2_⟩ := q69'; exact ⟨cs_, ot25 _ _ nbl25 t1_, t2_⟩
      have kx25 : KeepX bl v1 W25 := ⟨(fB25.os).trans (fB24.os.symm.trans q68'.os), (fB25.tape).trans (fB24.tape.symm.trans q68'.tape), (fB25.output).trans (fB24.output.symm.trans q68'.output), Nat.le_trans q68'.size z25, fun k o hk hx => ot25 _ _ (fun g e he => by have := (q71' g e).1; have := lt_of_blk hx; omega) (q68'.block k o hk hx)⟩
      have on25 : OwnN 3 1 w.heap.size (k + 1) (iis ((passF (freeK ns x) (chK CH) (js i) l k).st ++ [(passF (freeK ns x) (chK CH) (js i) l k).at_])) (some ⟨ga25, 0, none⟩) ca25 W25 := .inr ⟨_, rfl, ow25⟩
      have lm25 : LimB ((some ⟨ga25, 0, none⟩ : Option Addr)) v1.heap.size W25 := fun g e => by cases e; rcases gg25 with gg | gg; exact ⟨(q71' _ gg).1, ow25.2.1⟩; exact ⟨by omega, ow25.2.1⟩
      generalize hg25 : upd g24 80 (.slice (some ⟨ga25, 0, none⟩) ((k + 1)) (ca25)) = g25
      have k25_1 := ku hg25 1 k24_1
      have k25_3 := ku hg25 3 k24_3
      have k25_5 := ku hg25 5 k24_5
      have k25_7 := ku hg25 7 k24_7
      have k25_15 := ku hg25 15 k24_15
      have k25_16 := ku hg25 16 k24_16
      have k25_17 := ku hg25 17 k24_17
      have k25_8 := ku hg25 8 k24_8
      have k25_10 := ku hg25 10 k24_10
      have k25_80 := kt hg25 80 (upd_same _ _ _)
      refine tail_value (o := _) rfl rfl rfl (v := .slice (some ⟨ga25, 0, none⟩) ((k + 1)) (ca25)) (by simp [go_sem, frv 87 k25_80]) ?_
      generalize hg26 : upd g25 6 (.slice (some ⟨ga25, 0, none⟩) ((k + 1)) (ca25)) = g26
      have k26_1 := ku hg26 1 k25_1
      have k26_3 := ku hg26 3 k25_3
      have k26_5 := ku hg26 5 k25_5
      have k26_7 := ku hg26 7 k25_7
      have k26_15 := ku hg26 15 k25_15
      have k26_16 := ku hg26 16 k25_16
      have k26_17 := ku hg26 17 k25_17
      have k26_8 := ku hg26 8 k25_8
      have k26_10 := ku hg26 10 k25_10
      have k26_6 := kt hg26 6 (upd_same _ _ _)
      refine wpOps_end ?_
      refine hK21 _ _ ?_
      refine region_dk 4 [(81, 0), (82, 1), (83, 2), (8, 3)] [[], [], [0, 1], [0, 1, 2]] (rel [is (.int .i64 ((passF (freeK ns x) (chK CH) (js i) l k).at_)),
      is (.int .i64 ((elT (js i).ms k))),
      is (.int .i64 (((passF (freeK ns x) (chK CH) (js i) l k).at_) + (elT (js i).ms k))),
      is (.int .i64 (((passF (freeK ns x) (chK CH) (js i) l k).at_) + (elT (js i).ms k)))])
        ⟨is_k, is_k, is_k, is_k, trivial⟩
        ⟨fun f s W m n p r u d => opv rfl rfl (by simp [go_sem, d.e 8 ((r 3 8 rfl rfl).trans k26_8)]) rfl,
    fun f s W m n p r u d => opv rfl rfl (by simp [go_sem, d.e 10 k26_10]) rfl,
    fun f s W m n p r u d => opv rfl rfl (by simp [go_sem, d.e 81 (n 0 rfl), d.e 82 (n 1 rfl), IntWalk.i64_in (((passF (freeK ns x) (chK CH) (js i) l k).at_) + (elT (js i).ms k)) (by omega)]) rfl,
    fun f s W m n p r u d => opv rfl rfl (by simp [go_sem, d.e 83 (n 2 rfl)]) rfl, trivial⟩ ?_
      intro f27 s27 W27 hB27 g27 hg27
      have fB27 := hB27.f fB25
      have z27 := hB27.below.size
      have b27_0 := hB27.b b25_0
      have b27_1 := hB27.b b25_1
      have q72' := (KeepX.trans kx25 (KeepX.of_below hB27.below))
      have q73' := (TabV.below tb25 hB27.below)
      have q74' := (OwnN.below on25 hB27.below)
      have q75' := (LimB.below lm25 hB27.below)
      refine wpOps_end ?_
      have k27_1 := kt hg27 1 k26_1
      have k27_3 := kt hg27 3 k26_3
      have k27_5 := kt hg27 5 k26_5
      have k27_7 := kt hg27 7 k26_7
      have k27_15 := kt hg27 15 k26_15
      have k27_16 := kt hg27 16 k26_16
      have k27_17 := kt hg27 17 k26_17
      have k27_6 := kt hg27 6 k26_6
      have k27_8 := kt hg27 8 (hB27.is 3)
      refine inBlock_normal ?_
      refine hK8 _ _ ?_
      refine region_dk 2 [(84, 0), (17, 1)] [[], [0]] (rel [is (.int .i64 ((k : Int) + 1)),
      is (.int .i64 ((k : Int) + 1))])
        ⟨is_k, is_k, trivial⟩
        ⟨fun f s W m n p r u d => opv rfl rfl (by simp [go_sem, d.e 17 ((r 1 17 rfl rfl).trans k27_17), IntWalk.i64_in ((k : Int) + 1) (by omega)]) rfl,
    fun f s W m n p r u d => opv rfl rfl (by simp [go_sem, d.e 84 (n 0 rfl)]) rfl, trivial⟩ ?_
      intro f28 s28 W28 hB28 g28 hg28
      have fB28 := hB28.f fB27
      have z28 := hB28.below.size
      have b28_0 := hB28.b b27_0
      have b28_1 := hB28.b b27_1
      have q76' := (KeepX.trans q72' (KeepX.of_below hB28.below))
      have q77' := (TabV.below q73' hB28.below)
      have q78' := (OwnN.below q74' hB28.below)
      have q79' := (LimB.below q75' hB28.below)
      refine wpOps_end ?_
      have k28_1 := kt hg28 1 k27_1
      have k28_3 := kt hg28 3 k27_3
      have k28_5 := kt hg28 5 k27_5
      have k28_7 := kt hg28 7 k27_7
      have k28_15 := kt hg28 15 k27_15
      have k28_16 := kt hg28 16 k27_16
      have k28_6 := kt hg28 6 k27_6
      have k28_8 := kt hg28 8 k27_8
      have k28_17 := kt hg28 17 (hB28.is 1)
      refine then_normal ?_
      exact ⟨_, by omega, g28, rfl, k + 1, (some ⟨ga25, 0, none⟩), ca25, rfl, k28_1, k28_3, k28_5, k28_7, k28_15, k28_16, k28_17.trans (by go_num), k28_6.trans (by go_num), k28_8.trans (by rw [hps_]), fB28, (by omega), b28_0, b28_1, q76', (by rw [hps_]; exact q77'), (by rw [hps_]; exact q78'), q79', (by omega)⟩
  ·
    have hc7' := hc7; try simp only [ba] at hc7'
    have hkn : k = nm := by omega
    refine wp_exit ?_
    refine then_exit ?_
    refine then_exit ?_
    refine inBlock_at ?_
    refine hK3 _ _ ?_
    refine wp_seq_k fun K22 hK22 => ?_
    refine region_dk 4 [(85, 0), (86, 1), (6, 2), (7, 3)] [[], [], [0], [0, 1, 2]] (rel [is (.slice (aq) (k) (cq)),
      is (.int .i64 ((passF (freeK ns x) (chK CH) (js i) l k).at_)),
      is (.slice (aq) (k) (cq)),
      is (.int .i64 ((passF (freeK ns x) (chK CH) (js i) l k).at_))])
      ⟨is_k, is_k, is_k, is_k, trivial⟩
      ⟨fun f s W m n p r u d => opv rfl rfl (by simp [go_sem, d.e 6 ((r 2 6 rfl rfl).trans k4_6)]) rfl,
    fun f s W m n p r u d => opv rfl rfl (by simp [go_sem, d.e 8 k4_8]) rfl,
    fun f s W m n p r u d => opv rfl rfl (by simp [go_sem, d.e 85 (n 0 rfl)]) rfl,
    fun f s W m n p r u d => opv rfl rfl (by simp [go_sem, d.e 86 (n 1 rfl)]) rfl, trivial⟩ ?_
    intro f29 s29 W29 hB29 g29 hg29
    have fB29 := hB29.f fB4
    have z29 := hB29.below.size
    have b29_0 := hB29.b b4_0
    have b29_1 := hB29.b b4_1
    have q80' := (KeepX.trans q12' (KeepX.of_below hB29.below))
    have q81' := (TabV.below q13' hB29.below)
    have q82' := (OwnN.below q14' hB29.below)
    have q83' := (LimB.below q15' hB29.below)
    refine hK22 _ _ ?_
    have k29_6 := kt hg29 6 (hB29.is 2)
    have k29_7 := kt hg29 7 (hB29.is 3)
    refine wp_ret ?_
    refine leave_gen (v := .tuple #[.slice (aq) (k) (cq), .int .i64 ((passF (freeK ns x) (chK CH) (js i) l k).at_)]) (.inr rfl) (by simp [results, Try.results49, go_sem, frv 87 k29_6, frv 87 k29_7]) ?_
    have ho_ := q82'
    have hl_ := q83'
    rcases ho_ with ⟨-, e1_, -⟩ | ⟨g1_, e1_, o1_⟩
    · omega
    · subst e1_; subst hkn
      exact ⟨g1_, _, rfl, ii_own o1_ (passF_len _ _ _ _ _), (hl_ g1_ rfl).1, (hl_ g1_ rfl).2, q80', q81'⟩
end Go.Proofs.Ytcgccflcjejlhaa
