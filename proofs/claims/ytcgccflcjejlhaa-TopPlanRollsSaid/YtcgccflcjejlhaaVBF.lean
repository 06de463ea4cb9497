/- Part of the proof: what the claim leans on. -/
import Derived.Test.YtcgccflcjejlhaaVBE
import Derived.Test.YtcgccflcjejlhaaVBC
import Derived.Test.YtcgccflcjejlhaaVAR
set_option maxHeartbeats 8000000
set_option maxRecDepth 100000
set_option linter.unusedSimpArgs false
set_option linter.unusedVariables false
namespace Go.Proofs.Ytcgccflcjejlhaa
open Go.RowKit
theorem try_it (p : Tp) (os : Nat → To) (bo oo no co : Nat) (al : Option Addr) (cl bl ol : Nat) (L : List (List Int)) (ad : Nat → Option Addr) (cp : Nat → Nat) (bs : Nat) {w : World} (hO : OrdR w bo oo no os) (hp : TpIn p) (ho : ∀ i, i < no → ToIn (os i)) (gno : no ≤ 4) (g1no : 1 ≤ no) (hL : LOk p os no L) (hLL : LLr w bl ol L ad cp) (hal : 0 < L.length → al = some ⟨bl, ol, none⟩) (hbs : w.heap.size ≤ bs) : ∀ m, TryIt p os bo oo no co al cl L ad cp bs w m
  | 0 => try_0 p os bo oo no co al cl bl ol L ad cp bs hO hp ho gno g1no hL hLL hal hbs
  | m + 1 => try_s p os bo oo no co al cl bl ol L ad cp bs hO hp ho gno g1no hL hLL hal hbs m (try_it p os bo oo no co al cl bl ol L ad cp bs hO hp ho gno g1no hL hLL hal hbs m)
theorem forI_inv {f : Nat → Se → Se} {i : Nat} (P : Se → Prop) : ∀ (c : Nat) (s : Se), (∀ k s, k < c → P s → P (f (i + k) s)) → P s → P (forI f i c s)
  | 0, _, _, h => h
  | c + 1, s, hf, h => hf c _ (Nat.lt_succ_self c) (forI_inv P c s (fun k s hk => hf k s (by omega)) h)
theorem forR_inv {f : Int → Se → Se} {l : Int} (P : Se → Prop) : ∀ (c : Nat) (s : Se), (∀ k s, k < c → P s → P (f (l + (k : Int)) s)) → P s → P (forR f l c s)
  | 0, _, _, h => h
  | c + 1, s, hf, h => hf c _ (Nat.lt_succ_self c) (forR_inv P c s (fun k s hk => hf k s (by omega)) h)
def PlOk (L : List (List Int)) (pl : List (Nat × Int)) : Prop := ∀ x ∈ pl, x.1 < L.length
theorem tryF_ok (p : Tp) (os : Nat → To) (no : Nat) (L : List (List Int)) : ∀ (m : Nat) (pl : List (Nat × Int)) (fr : Nat) (wa : Int) (gs : List Int) (s : Se), PlOk L pl → fr ≤ L.length → m + pl.length ≤ 3 → PlOk L s.best ∧ s.best.length ≤ 3 → PlOk L (tryF p os no L m pl fr wa gs s).best ∧ (tryF p os no L m pl fr wa gs s).best.length ≤ 3
  | 0, pl, fr, wa, gs, s, h1, _, h2, h3 => by
    unfold tryF; split
    · exact ⟨h1, by show pl.length ≤ 3; omega⟩
    · exact h3
  | m + 1, pl, fr, wa, gs, s, h1, hf, h2, h3 => by
    unfold tryF; split
    · exact h3
    · refine forI_inv (fun s => PlOk L s.best ∧ s.best.length ≤ 3) _ _ (fun k s hk hs => ?_) h3
      refine forR_inv (fun s => PlOk L s.best ∧ s.best.length ≤ 3) _ _ (fun r s _ hs => ?_) hs
      refine tryF_ok p os no L m _ _ _ _ s (fun x hx => ?_) (by omega) (by simp; omega) hs
      rcases List.mem_append.1 hx with h | h
      · exact h1 x h
      · rw [List.mem_singleton.1 h]; show fr + k < L.length; omega
def planF (f : Nat → Se) : Nat → Nat → Option Se
  | 0, _ => none
  | c + 1, n => if (f n).found then some (f n) else planF f c (n + 1)
def seN (p : Tp) (os : Nat → To) (L : List (List Int)) (n : Nat) : Se := tryF p os 3 L n [] 0 0 [0, 0, 0] ⟨[], 0, false⟩
def plX (L : List (List Int)) (pl : List (Nat × Int)) (j : Nat) : List Int × Int := (webL L (pl.getD j (0, 0)).1, (pl.getD j (0, 0)).2)
theorem plC_at (L : List (List Int)) (ad : Nat → Option Addr) (cp : Nat → Nat) : ∀ (pl : List (Nat × Int)) (j : Nat), j < pl.length → (plC L ad cp pl)[j * 2]? = some (.slice (ad (pl.getD j (0, 0)).1) (plX L pl j).1.length (cp (pl.getD j (0, 0)).1)) ∧ (plC L ad cp pl)[j * 2 + 1]? = some (.int .i64 (plX L pl j).2)
  | [], j, h => absurd h (Nat.not_lt_zero _)
  | (k, r) :: t, 0, _ => ⟨rfl, rfl⟩
  | (k, r) :: t, j + 1, h => by
    have := plC_at L ad cp t j (by simpa using h)
    rw [show (j + 1) * 2 = j * 2 + 1 + 1 by omega]
    exact this
theorem plan_is {W : World} {bs c bl ol : Nat} {a : Option Addr} {L : List (List Int)} {ad : Nat → Option Addr} {cp : Nat → Nat} {pl : List (Nat × Int)} (hR : RowA W bs a pl.length (plC L ad cp pl)) (hc : pl.length ≤ c) (hLL : LLr W bl ol L ad cp) (hok : PlOk L pl) : IsPlan pl.length (plX L pl) (.slice a pl.length c) W := by
  have hmem : ∀ j, j < pl.length → (pl.getD j (0, 0)).1 < L.length := fun j hj => by
    rw [List.getD_eq_getElem?_getD, List.getElem?_eq_getElem hj]; exact hok _ (List.getElem_mem hj)
  rcases hR.2 with ⟨e, -⟩ | ⟨b, o, e, -, hlt, hcell⟩
  · exact ⟨a, c, 0, 0, fun _ => none, fun _ => 0, rfl, hc, fun h => by omega, fun h => by omega, fun j hj => by omega⟩
  · refine ⟨a, c, b, o, fun j => ad (pl.getD j (0, 0)).1, fun j => cp (pl.getD j (0, 0)).1, rfl, hc, fun _ => e, fun _ => hlt, fun j hj => ?_⟩
    obtain ⟨h1, h2⟩ := plC_at L ad cp pl j hj
    exact ⟨hcell _ _ h1, by have := hcell _ _ h2; rwa [← Nat.add_assoc] at this, (hLL.2 _ (hmem j hj)).2⟩
theorem tryOk_start {no : Nat} {L : List (List Int)} {m : Nat} (h : m ≤ 3) : TryOk 3 L m [] 0 0 [0, 0, 0] := by
  refine ⟨by simpa using h, fun i => ?_, by simp, Nat.zero_le _, rfl⟩
  have : elT [0, 0, 0] i = 0 := by
    unfold elT
    rw [List.getD_eq_getElem?_getD]
    match i with
    | 0 => rfl
    | 1 => rfl
    | 2 => rfl
    | i + 3 => rfl
  rw [this]; exact ⟨Int.le_refl _, by simp⟩
def AgX (p : Tp) (os : Nat → To) (bo oo co : Nat) (v : Value) (W : World) : Prop := ∃ a c b o ad cp, v = .agg #[.int .i64 p.wide, .int .i64 p.tlo, .int .i64 p.thi, .int .i64 p.webs, .slice (some ⟨bo, oo, none⟩) 3 co, .slice (a) ((patL p os 3 3 []).length) (c), .slice none 0 0, .int .i64 0, .bool false] ∧ (0 < (patL p os 3 3 []).length → a = some ⟨b, o, none⟩) ∧ LLr W b o (patL p os 3 3 []) ad cp
theorem AgX.below {p : Tp} {os : Nat → To} {bo oo co : Nat} {v : Value} {W W' : World} (h : AgX p os bo oo co v W) (hb : Below W.heap.size W W') : AgX p os bo oo co v W' := by
  obtain ⟨a, c, b, o, ad, cp, e, h1, h2⟩ := h; exact ⟨a, c, b, o, ad, cp, e, h1, h2.below hb⟩
def BxX (w : World) (p : Tp) (os : Nat → To) (bo oo co : Nat) (v : Value) (W : World) : Prop := ∃ (V : World) (bs : Nat) (a : Option Addr) (c b o : Nat) (ad : Nat → Option Addr) (cp : Nat → Nat), v = .pointer (some ⟨bs, 0, none⟩) ∧ W.heap[bs]? = some (.cells #[.int .i64 p.wide, .int .i64 p.tlo, .int .i64 p.thi, .int .i64 p.webs, .slice (some ⟨bo, oo, none⟩) 3 co, .slice (a) ((patL p os 3 3 []).length) (c), .slice none 0 0, .int .i64 0, .bool false] 168 (0, 0)) ∧ Below w.heap.size w V ∧ Below V.heap.size V W ∧ V.heap.size ≤ bs ∧ LLr V b o (patL p os 3 3 []) ad cp ∧ (0 < (patL p os 3 3 []).length → a = some ⟨b, o, none⟩)
theorem BxX.below {w : World} {p : Tp} {os : Nat → To} {bo oo co : Nat} {v : Value} {W W' : World} (h : BxX w p os bo oo co v W) (hb : Below W.heap.size W W') : BxX w p os bo oo co v W' := by
  obtain ⟨V, bs, a, c, b, o, ad, cp, e, h1, h2, h3, h4⟩ := h; exact ⟨V, bs, a, c, b, o, ad, cp, e, bwb h1 hb, h2, bwt h3 hb, h4⟩
theorem within1_iff {a b x : Int} : within a b [x] = true ↔ a ≤ x ∧ x ≤ b := by
  unfold within; simp
theorem patL_mem {p : Tp} {os : Nat → To} {no : Nat} (hp : TpIn p) : ∀ (d : Nat) (xs : List Int), xs.length + d = no → (∀ x ∈ xs, 0 ≤ x ∧ x ≤ 4) → ∀ ys ∈ patL p os no d xs, ys.length = no ∧ (∀ y ∈ ys, 0 ≤ y ∧ y ≤ 4) ∧ patF p os ys no = true
  | 0, xs, hl, hx, ys, hy => by
    unfold patL at hy
    split at hy
    · rename_i hpat
      rw [List.mem_singleton] at hy
      subst hy
      exact ⟨by omega, hx, hpat⟩
    · cases hy
  | d + 1, xs, hl, hx, ys, hy => by
    unfold patL at hy
    rw [List.mem_flatMap] at hy
    obtain ⟨k, hk, hy⟩ := hy
    have hk' := List.mem_range.1 hk
    refine patL_mem hp d (xs ++ [(k : Int)]) (by simp; omega) (fun x h => ?_) ys hy
    rcases List.mem_append.1 h with h | h
    · exact hx x h
    · rw [List.mem_singleton.1 h]; have := hp.webs; omega
theorem patL_ok {p : Tp} {os : Nat → To} {no : Nat} (hp : TpIn p) (ho : ∀ i, i < no → ToIn (os i)) (gno : no ≤ 4 := by decide) : LOk p os no (patL p os no no []) := by
  have key : ∀ i, i < (patL p os no no []).length → (webL (patL p os no no []) i).length = no ∧ (∀ y ∈ webL (patL p os no no []) i, 0 ≤ y ∧ y ≤ 4) ∧ patF p os (webL (patL p os no no []) i) no = true := fun i hi => by
    have e : webL (patL p os no no []) i = (patL p os no no [])[i] := by unfold webL; rw [List.getD_eq_getElem?_getD, List.getElem?_eq_getElem hi]; rfl
    rw [e]
    exact patL_mem hp no [] (by simp) (fun x h => nomatch h) _ (List.getElem_mem hi)
  refine ⟨patL_len4 hp os no gno [], fun i hi => (key i hi).1, fun i hi => (key i hi).2.1, fun i hi => ?_⟩
  have h := (key i hi).2.2
  unfold patF at h
  rw [Bool.and_eq_true, Bool.and_eq_true] at h
  have h1 := within1_iff.1 h.2
  have h2 := hp.trim
  omega
theorem plan_some (p : Tp) (os : Nat → To) (bo oo co : Nat) (q : Se) (w : World) (hO : OrdR w bo oo 3 os) (hp : TpIn p) (ho : ∀ i, i < 3 → ToIn (os i)) (hq : planF (seN p os (patL p os 3 3 [])) 4 0 = some q) :
  Calls Try.prog 31 #[.agg #[.int .i64 p.wide, .int .i64 p.tlo, .int .i64 p.thi, .int .i64 p.webs, .slice (some ⟨bo, oo, none⟩) 3 co]] w (fun e w' => ∃ v, e = .returned (.tuple #[v, .int .i64 q.waste, .bool true]) ∧ IsPlan q.best.length (plX (patL p os 3 3 []) q.best) v w' ∧ q.best.length ≤ 3 ∧ Below w.heap.size w w') := by
 refine calls_fr Try.func31 Try.ntmps31 rfl rfl fun g hg => ?_
 have k0 : g 0 = .agg #[.int .i64 p.wide, .int .i64 p.tlo, .int .i64 p.thi, .int .i64 p.webs, .slice (some ⟨bo, oo, none⟩) 3 co] := hg 0
 clear hg
 have fB0 : Below w.heap.size w w := Below.refl _ _
 refine rw_ 4 [(1, 0), (2, 1), (3, 2), (4, 3)] [[], [], [], []] (rel [bx 0 #[.int .i64 p.wide, .int .i64 p.tlo, .int .i64 p.thi, .int .i64 p.webs, .slice (some ⟨bo, oo, none⟩) 3 co] 110, is (.slice none 0 0), iI 0, iB false])
  ⟨fun f s W c j l m n a => opb rfl rfl (by simp [go_sem, a.e 0 k0]),
  fun f s W c j l m n a => opv rfl rfl (by simp [go_sem]) rfl,
  fun f s W c j l m n a => opz,
  fun f s W c j l m n a => opz, trivial⟩ ?_
 intro f1 s1 W1 hB1 g1 hg1 z1
 obtain ⟨r1_0, br1_0⟩ := hB1.is 0
 have lr1_0 := hB1.lr 0 br1_0
 refine wp_seq_k fun K2 hK2 => ?_
 refine rw_ 1 [(7, 0)] [[]] (rel [iI 0])
  ⟨fun f s W c j l m n a => opz, trivial⟩ ?_
 intro f2 s2 W2 hB2 g2 hg2 z2
 have fB2 := hB2.f (hB1.f fB0)
 have b2_0 := hB2.b br1_0
 have k2_1 := kt hg2 1 (kt hg1 1 r1_0)
 have k2_2 := kt hg2 2 (kt hg1 2 (hB1.is 1))
 have k2_3 := kt hg2 3 (kt hg1 3 (hB1.is 2))
 have k2_4 := kt hg2 4 (kt hg1 4 (hB1.is 3))
 have k2_7 := kt hg2 7 (hB2.is 0)
 refine wp_block ?_
 refine wp_loop_n (fun m_ a_ W_ => ∃ g_ : Nat → Value, a_ = fr 35 g_ ∧ (∃ k : Nat, m_ = 4 - k ∧ g_ 1 = .pointer (some ⟨(s1 0), 0, none⟩) ∧ g_ 2 = .slice none 0 0 ∧ g_ 3 = .int .i64 0 ∧ g_ 4 = .bool false ∧ g_ 7 = .int .i64 ((k : Int)) ∧ Below w.heap.size w W_ ∧ W2.heap.size ≤ W_.heap.size ∧ W_.heap[(s1 0)]? = some (.cells #[.int .i64 p.wide, .int .i64 p.tlo, .int .i64 p.thi, .int .i64 p.webs, .slice (some ⟨bo, oo, none⟩) 3 co] 110 (0, 0)) ∧ (k ≤ 4) ∧ (planF (seN p os (patL p os 3 3 [])) (4 - k) k = some q))) ⟨_, g2, rfl, 0, rfl, k2_1, k2_2, k2_3, k2_4, k2_7.trans (by rfl), fB2, Nat.le_refl _, b2_0, (by omega), hq⟩ ?_
 rintro _ _ W_1 ⟨g_1, rfl, k, rfl, k_1_1, k_1_2, k_1_3, k_1_4, k_1_7, fB_1, z_1, b_1_0, lk0, lk1⟩
 refine rw_ 1 [(8, 0)] [[]] (rel [iB (decide ((k : Int) < 4))])
  ⟨fun f s W c j l m n a => opv rfl rfl (by simp [go_sem, a.e 7 k_1_7]) rfl, trivial⟩ ?_
 intro f3 s3 W3 hB3 g3 hg3 z3
 have k3_7 := kt hg3 7 k_1_7
 have k3_8 := kt hg3 8 (hB3.is 0)
 refine wp_seq_k fun K5 hK5 => ?_
 refine wp_cond_split (t := decide ((k : Int) < 4)) ((fr_eval rfl).trans k3_8) (fun hc6 => ?_) (fun hc6 => ?_)
 ·
  have hc6' := hc6; try simp only [ba] at hc6'
  have hk4_ : k < 4 := by omega
  refine wp_skip ?_
  refine hK5 _ _ ?_
  refine wp_seq_k fun K7 hK7 => ?_
  refine wp_block ?_
  refine rw_ 2 [(9, 0), (5, 1)] [[], [0]] (rel [iI ((k : Int)), iI ((k : Int))])
   ⟨fun f s W c j l m n a => opm (a.v 7 k3_7),
  fun f s W c j l m n a => opm (a.v 9 (j 0 rfl)), trivial⟩ ?_
  intro f4 s4 W4 hB4 g4 hg4 z4
  have fB4 := hB4.f (hB3.f fB_1)
  have b4_0 := hB4.b (hB3.b b_1_0)
  have k4_1 := kt hg4 1 (kt hg3 1 k_1_1)
  refine rx 6 [(10, 0), (11, 1), (12, 2), (13, 3), (14, 4), (6, 5)] [[], [], [1], [0, 2], [3], [4]] (rel [is (.agg #[.int .i64 p.wide, .int .i64 p.tlo, .int .i64 p.thi, .int .i64 p.webs, .slice (some ⟨bo, oo, none⟩) 3 co]), is (.agg #[.int .i64 p.wide, .int .i64 p.tlo, .int .i64 p.thi, .int .i64 p.webs, .slice (some ⟨bo, oo, none⟩) 3 co]), ab fun v W => IsLL (patL p os 3 3 []) v W, ab fun v W => AgX p os bo oo co v W, ab fun v W => BxX w p os bo oo co v W, ab fun v W => BxX w p os bo oo co v W])
   ⟨is_k, is_k, ab_k fun v W W' hb h => (h.below hb), ab_k fun v W W' hb h => h.below hb, ab_k fun v W W' hb h => h.below hb, ab_k fun v W W' hb h => h.below hb, trivial⟩
   ⟨fun f s W c j l m n a => opl rfl rfl rfl (a.v 1 k4_1) (bwb b4_0 c) Try.underlying110 rfl (by kernel_rfl) rfl,
  fun f s W c j l m n a => opl rfl rfl rfl (a.v 1 k4_1) (bwb b4_0 c) Try.underlying110 rfl (by kernel_rfl) rfl,
  fun f s W c j l m n a => by have r := bwt fB4 c; exact opd rfl rfl (by simp [go_sem, a.e 11 (j 1 rfl)]) (all_pats p os bo oo 3 co W (hO.below r) hp ho (by decide)) ((fun e W' h => by obtain ⟨v, e1, h1, h2⟩ := h; exact ⟨_, e1, h2, h1⟩)),
  fun f s W c j l m n a => by obtain ⟨a2', c3', b4', o5', ad6', cp7', d2, q10', q9', q8'⟩ := (j 2 rfl); exact opv (v := (.agg #[.int .i64 p.wide, .int .i64 p.tlo, .int .i64 p.thi, .int .i64 p.webs, .slice (some ⟨bo, oo, none⟩) 3 co, .slice (a2') ((patL p os 3 3 []).length) (c3'), .slice none 0 0, .int .i64 0, .bool false])) rfl rfl (by simp [go_sem, a.e 10 (j 0 rfl), a.e 12 d2]) ⟨_, _, _, _, _, _, rfl, q9', q8'⟩,
  fun f s W c j l m n a => by obtain ⟨a11', c12', b13', o14', ad15', cp16', d3, q18', q17'⟩ := (j 3 rfl); have r := bwt fB4 c; have r := bwt fB4 c; exact opDo_value (v := .pointer (some ⟨W.heap.size, 0, none⟩)) rfl rfl (by simp [go_sem, a.e 13 d3]) (balloc1 _ _) ⟨W, _, a11', c12', _, _, _, _, rfl, blk_new rfl, r, balloc1 _ _, Nat.le_refl _, q17', q18'⟩,
  fun f s W c j l m n a => opv (v := (f 4)) rfl rfl (by simp [go_sem, (a.at' 14 rfl : n.tmps[14]?.getD undef = f 4)] <;> rfl) (j 4 rfl), trivial⟩ ?_
  intro f5 s5 W5 hB5 g5 hg5 z5
  have b5_0 := hB5.b b4_0
  obtain ⟨V_, bs, al, cl, bl, ol, ad, cp, r5_5, q21', hwV_, q22', hbs_, hLL_, hal_⟩ := hB5.is 5
  have k5_1 := kt hg5 1 k4_1
  have k5_5 := kt hg5 5 (kt hg4 5 (hB4.is 1))
  have k5_6 := kt hg5 6 r5_5
  have lt_bs0 := ltb q21'
  refine wp_seq_k fun K10 hK10 => ?_
  refine ry 6 [(15, 0), (16, 1), (17, 2), (18, 3), (19, 4), (20, 5), (21, 6)] [[], [], [], [2], [2, 3], [2, 3, 4], [0, 1, 2, 3, 4, 5]] (rel [is (.pointer (some ⟨bs, 0, none⟩)), iI ((k : Int)), is (.pointer (some ⟨(s1 0), 4, none⟩)), is (.slice (some ⟨bo, oo, none⟩) 3 co), iI 3, row 5 3 #[.int .i64 0, .int .i64 0, .int .i64 0] 3])
   ⟨fun f s W c j l m n a => opm (a.v 6 k5_6),
  fun f s W c j l m n a => opm (a.v 5 k5_5),
  fun f s W c j l m n a => opv rfl rfl (by simp [go_sem, a.e 1 k5_1]) rfl,
  fun f s W c j l m n a => opv rfl rfl (by simp [go_sem, a.e 17 (j 2 rfl), cb b5_0 c 4]) rfl,
  fun f s W c j l m n a => opv rfl rfl (by simp [go_sem, a.e 18 (j 3 rfl)]) rfl,
  fun f s W c j l m n a => opr rfl rfl (by simp [go_sem, a.e 19 (j 4 rfl)]; kernel_rfl), trivial⟩ ?_
  intro f6 s6 W6 hB6 g6 hg6 z6
  have fB6 := hB6.f (hB5.f fB4)
  have b6_0 := hB6.b b5_0
  have q23' := (hB6.b q21')
  have q24' := (hB6.f q22')
  obtain ⟨r6_5, br6_5⟩ := hB6.is 5
  have lr6_5 := hB6.lr 5 br6_5
  have k6_15 := kt hg6 15 (hB6.is 0)
  have k6_16 := kt hg6 16 (hB6.is 1)
  have k6_20 := kt hg6 20 r6_5
  have lt_bs := ltb q23'
  have hne_ : (s6 5) ≠ bs := by omega
  refine tail_call (o := _) (d := 21) rfl rfl rfl (by simp [go_sem, frv 35 k6_15, frv 35 k6_16, frv 35 k6_20]) (try_it p os bo oo 3 co al cl bl ol (patL p os 3 3 []) ad cp bs (hO.below hwV_) hp ho (by decide) (by decide) (patL_ok hp ho) hLL_ hal_ hbs_ k [] 0 0 [0, 0, 0] ⟨[], 0, false⟩ none 0 0 (some ⟨(s6 5), 0, none⟩) 3 3 W6 (tryOk_start (no := 3) (by omega)) q24' ⟨none, 0, q23', Nat.le_refl _, rfl, .inl ⟨rfl, rfl⟩⟩ ⟨rfl, .inl ⟨rfl, rfl⟩⟩ rfl (Nat.le_refl _) (fun _ => ⟨rfl, rfl⟩) (ii_block (xs := [0, 0, 0]) br6_5 rfl rfl) (fun b o e => by cases e; exact hne_)) ?_ (fun _ h => nomatch h.1) (fun _ _ h => nomatch h.1)
  rintro v_ W7 ⟨rv7, kx7, bx7⟩
  obtain rfl := Ending.returned.inj rv7
  have z7 := kx7.size
  have fB7 := Below.trans fB6 (kx7.below (by have := hwV_.size; omega) (fB6).size)
  have bV7 := Below.trans q24' (kx7.below hbs_ (q24').size)
  have hm7 := kx7.block _ _ (fun e => by have h1 := b6_0; rw [e, q23'] at h1; simp at h1) b6_0
  obtain ⟨sq, hsq⟩ : ∃ q, seN p os (patL p os 3 3 []) k = q := ⟨_, rfl⟩
  have bx7' : BoxS p bo oo 3 co al cl (patL p os 3 3 []) ad cp bs sq W7 := hsq ▸ bx7
  obtain ⟨aq, cq, hbq, hcq, hrq⟩ := bx7'
  have hokq := tryF_ok p os 3 (patL p os 3 3 []) k [] 0 0 [0, 0, 0] ⟨[], 0, false⟩ (fun x h => nomatch h) (Nat.zero_le _) (by simp; omega) ⟨fun x h => (nomatch h), Nat.zero_le _⟩
  have hokq_ : PlOk (patL p os 3 3 []) sq.best ∧ sq.best.length ≤ 3 := hsq ▸ hokq
  generalize hg7 : upd g6 21 (.tuple #[]) = g7
  have k7_6 := ku hg7 6 (kt hg6 6 k5_6)
  refine wpe ?_
  refine hK10 _ _ ?_
  refine rw_ 4 [(22, 0), (23, 1), (24, 2), (25, 3)] [[], [0], [1], [2]] (rel [is (.pointer (some ⟨bs, 0, none⟩)), is (.pointer (some ⟨bs, 0, none⟩)), is (.pointer (some ⟨bs, 8, none⟩)), iB sq.found])
   ⟨fun f s W c j l m n a => opm (a.v 6 k7_6),
  fun f s W c j l m n a => opv rfl rfl (by simp [go_sem, a.e 22 (j 0 rfl)]) rfl,
  fun f s W c j l m n a => opv rfl rfl (by simp [go_sem, a.e 23 (j 1 rfl)]) rfl,
  fun f s W c j l m n a => opv rfl rfl (by simp [go_sem, a.e 24 (j 2 rfl), cb hbq c 8]) rfl, trivial⟩ ?_
  intro f8 s8 W8 hB8 g8 hg8 z8
  have fB8 := hB8.f fB7
  have b8_1 := hB8.b hbq
  have q25' := (hB8.f bV7)
  have q26' := (hrq.below hB8.below)
  have k8_7 := kt hg8 7 (ku hg7 7 (kt hg6 7 (kt hg5 7 (kt hg4 7 k3_7))))
  have k8_6 := kt hg8 6 k7_6
  have k8_25 := kt hg8 25 (hB8.is 3)
  refine wp_cond_split (t := sq.found) ((fr_eval rfl).trans k8_25) (fun hc12 => ?_) (fun hc12 => ?_)
  ·
   have hc12' := hc12; try simp only [ba] at hc12'
   have hfd_ : sq.found = true := hc12
   have e_ : 4 - k = (4 - (k + 1)) + 1 := by omega
   rw [e_, planF, hsq, if_pos hfd_] at lk1
   obtain rfl := Option.some.inj lk1
   refine rw_ 11 [(26, 0), (27, 1), (28, 2), (29, 3), (30, 4), (31, 5), (32, 6), (33, 7), (2, 8), (3, 9), (4, 10)] [[], [0], [1], [2], [], [4], [5], [6], [3], [7], []] (rel [is (.pointer (some ⟨bs, 0, none⟩)), is (.pointer (some ⟨bs, 0, none⟩)), is (.pointer (some ⟨bs, 6, none⟩)), is (.slice aq (sq.best.length) cq), is (.pointer (some ⟨bs, 0, none⟩)), is (.pointer (some ⟨bs, 0, none⟩)), is (.pointer (some ⟨bs, 7, none⟩)), iI sq.waste, is (.slice aq (sq.best.length) cq), iI sq.waste, iB true])
    ⟨fun f s W c j l m n a => opm (a.v 6 k8_6),
  fun f s W c j l m n a => opv rfl rfl (by simp [go_sem, a.e 26 (j 0 rfl)]) rfl,
  fun f s W c j l m n a => opv rfl rfl (by simp [go_sem, a.e 27 (j 1 rfl)]) rfl,
  fun f s W c j l m n a => opv rfl rfl (by simp [go_sem, a.e 28 (j 2 rfl), cb b8_1 c 6]) rfl,
  fun f s W c j l m n a => opm (a.v 6 k8_6),
  fun f s W c j l m n a => opv rfl rfl (by simp [go_sem, a.e 30 (j 4 rfl)]) rfl,
  fun f s W c j l m n a => opv rfl rfl (by simp [go_sem, a.e 31 (j 5 rfl)]) rfl,
  fun f s W c j l m n a => opv rfl rfl (by simp [go_sem, a.e 32 (j 6 rfl), cb b8_1 c 7]) rfl,
  fun f s W c j l m n a => opm (a.v 29 (j 3 rfl)),
  fun f s W c j l m n a => opm (a.v 33 (j 7 rfl)),
  fun f s W c j l m n a => opz, trivial⟩ ?_
   intro f9 s9 W9 hB9 g9 hg9 z9
   have fB9 := hB9.f fB8
   have q27' := (hB9.f q25')
   have q28' := (q26'.below hB9.below)
   have k9_2 := kt hg9 2 (hB9.is 8)
   have k9_3 := kt hg9 3 (hB9.is 9)
   have k9_4 := kt hg9 4 (hB9.is 10)
   refine wp_ret ?_
   refine inBlock_ret (then_ret (then_ret (inBlock_ret (then_ret ?_))))
   refine leave_gen (v := .tuple #[.slice aq (sq.best.length) cq, .int .i64 sq.waste, .bool true]) (.inr rfl) (by simp [results, Try.results31, go_sem, frv 35 k9_2, frv 35 k9_3, frv 35 k9_4]) ?_
   exact ⟨_, rfl, plan_is q28' hcq (hLL_.below q27') hokq_.1, hokq_.2, fB9⟩
  ·
   have hc12' := hc12; try simp only [ba] at hc12'
   have hfd_ : sq.found = false := hc12
   refine wp_skip ?_
   refine ibn ?_
   refine hK7 _ _ ?_
   refine ry 2 [(34, 0), (7, 1)] [[], [0]] (rel [iI ((k : Int) + 1), iI ((k : Int) + 1)])
    ⟨fun f s W c j l m n a => opv rfl rfl (by simp [go_sem, a.e 7 ((m 1 7 rfl rfl).trans k8_7), IntWalk.i64_in ((k : Int) + 1) (by omega)]) rfl,
  fun f s W c j l m n a => opm (a.v 34 (j 0 rfl)), trivial⟩ ?_
   intro f10 s10 W10 hB10 g10 hg10 z10
   have fB10 := hB10.f fB8
   have b10_0 := hB10.b (hB8.b hm7)
   have q29' := (hB10.f q25')
   have q30' := (q26'.below hB10.below)
   refine wpe ?_
   have k10_1 := kt hg10 1 (kt hg8 1 (ku hg7 1 (kt hg6 1 k5_1)))
   have k10_2 := kt hg10 2 (kt hg8 2 (ku hg7 2 (kt hg6 2 (kt hg5 2 (kt hg4 2 (kt hg3 2 k_1_2))))))
   have k10_3 := kt hg10 3 (kt hg8 3 (ku hg7 3 (kt hg6 3 (kt hg5 3 (kt hg4 3 (kt hg3 3 k_1_3))))))
   have k10_4 := kt hg10 4 (kt hg8 4 (ku hg7 4 (kt hg6 4 (kt hg5 4 (kt hg4 4 (kt hg3 4 k_1_4))))))
   have k10_7 := kt hg10 7 (hB10.is 1)
   refine then_normal ?_
   have e_ : 4 - k = (4 - (k + 1)) + 1 := by omega
   rw [e_, planF, hsq, if_neg (by rw [hfd_]; exact Bool.false_ne_true)] at lk1
   exact ⟨_, by omega, g10, rfl, k + 1, rfl, k10_1, k10_2, k10_3, k10_4, k10_7.trans (by go_num), fB10, (by omega), b10_0, (by omega), lk1⟩
 ·
  have hc6' := hc6; try simp only [ba] at hc6'
  have hk4_ : k = 4 := by omega
  subst hk4_
  cases lk1
  -- done
end Go.Proofs.Ytcgccflcjejlhaa
