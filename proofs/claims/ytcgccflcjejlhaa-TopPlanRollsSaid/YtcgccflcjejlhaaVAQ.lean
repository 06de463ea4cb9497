/- Part of the proof: what the claim leans on. -/
import Derived.Test.YtcgccflcjejlhaaVAM
import Derived.Test.YtcgccflcjejlhaaVAI
set_option maxHeartbeats 16000000
set_option maxRecDepth 100000
set_option linter.unusedSimpArgs false
set_option linter.unusedVariables false
namespace Go.Proofs.Ytcgccflcjejlhaa
open Go.RowKit
def EncP (L : List (List Int)) (i : Nat) (G : Nat → Prop) (v : Array Value) (W : World) : Prop := ∃ a n c, v = #[.slice a n c] ∧ Ii W a n c (L.getD i []) ∧ ∀ b o, a = some ⟨b, o, none⟩ → L.getD i [] = [] ∨ ¬ G b
theorem foldl_one (X : Array Value) (q : Tmp) (b : Value) : ((#[q] : Array Tmp).zip #[b]).foldl (fun t (p, v) => t.setIfInBounds p v) X = X.setIfInBounds q b := by
  simp [Array.zip, ← Array.foldl_toList]
theorem Ii.keep {W W' : World} {S : Nat → Prop} {a : Option Addr} {n c : Nat} {xs : List Int} (h : Ii W a n c xs) (hk : KeepP S W W') (hn : ∀ b o, a = some ⟨b, o, none⟩ → xs = [] ∨ ¬ S b) : Ii W' a n c xs := by
  obtain ⟨h0, h1, h2, h3, h4⟩ := h
  refine ⟨h0, h1, h2, h3, ?_⟩
  rcases h4 with h4 | ⟨b, o, e, hlt, hc⟩
  · exact .inl h4
  · rcases hn b o e with hx | hx
    · exact .inl (by rw [hx]; rfl)
    · refine .inr ⟨b, o, e, Nat.lt_of_lt_of_le hlt hk.size, fun i hi => ?_⟩
      have hb : W.heap[b]? = some W.heap[b] := Array.getElem?_eq_getElem hlt
      rw [← hc i hi]
      exact World.cell?_of_block ((hk.block _ _ hx hb).trans hb.symm)
theorem Ii.blk {W : World} {a : Option Addr} {n c : Nat} {xs : List Int} (h : Ii W a n c xs) : ∀ b o, a = some ⟨b, o, none⟩ → xs = [] ∨ b < W.heap.size := by
  intro b o e
  by_cases h0 : 0 < xs.length
  · obtain ⟨b', o', e', hlt, -⟩ := h.at h0
    rw [e] at e'; cases e'; exact .inr hlt
  · exact .inl (List.eq_nil_of_length_eq_zero (by omega))
theorem Ii.putLoop {W : World} {l : Nat} {r : Loop} {o : Obj} {a : Option Addr} {n c : Nat} {xs : List Int} (h : Ii W a n c xs) (hl : W.heap[l]? = some (.loop r)) : Ii (W.putObj l o) a n c xs := by
  refine h.keep (S := fun b => b = l) ⟨rfl, rfl, rfl, by rw [putObj_size]; exact Nat.le_refl _, fun k x hk hx => (World.putObj_heap_other (fun e => hk (by rw [e]))).trans hx⟩ fun b o' e => ?_
  by_cases h0 : 0 < xs.length
  · obtain ⟨b', off, e', hlt, hc⟩ := h.at h0
    rw [e] at e'; cases e'
    refine .inr ?_
    rintro rfl
    have := hc 0 h0
    simp [World.cell?, hl] at this
  · exact .inl (List.eq_nil_of_length_eq_zero (by omega))
def PatsIt (p : Tp) (os : Nat → To) (bo oo no co : Nat) (w : World) (d : Nat) : Prop :=
  ∀ (xs : List Int) (ax : Option Addr) (nx cx bm bw l : Nat) (G1 : Nat → Prop) (J : Nat → (Nat → Prop) → World → Prop) (v1 : World), nx + d = no → (∀ x ∈ xs, 0 ≤ x ∧ x ≤ 4) → Below w.heap.size w v1 →
    v1.heap[bm]? = some (.cells #[.int .i64 p.wide, .int .i64 p.tlo, .int .i64 p.thi, .int .i64 p.webs, .slice (some ⟨bo, oo, none⟩) no co] 110 (0, 0)) → v1.heap[bw]? = some (.cells #[.slice ax nx cx] 25 (0, 0)) → Ii v1 ax nx cx xs → AdOk ax nx → StabG J v1.heap.size → (∀ i G W, J i G W → ∀ b, G b → w.heap.size ≤ b ∧ b < W.heap.size) →
    (∀ b, G1 b → b ≠ bm ∧ b ≠ bw ∧ ∀ b' o, ax = some ⟨b', o, none⟩ → b ≠ b') →
    (∀ i G W v, i < (patL p os no d xs).length → J i G W → v1.heap.size ≤ W.heap.size → EncP (patL p os no d xs) i G v W → YieldAt Fence.wide 8 Try.prog l v W (YldG J i G W)) → J 0 G1 v1 →
    CallsIn Fence.wide 9 Try.prog 141 #[.func (.yield l) #[] #[], .pointer (some ⟨bw, 0, none⟩), .pointer (some ⟨bm, 0, none⟩)] v1 fun e W' => (∃ v, e = .returned v) ∧ ∃ G, J (patL p os no d xs).length G W'
theorem pats_0 (p : Tp) (os : Nat → To) (bo oo no co : Nat) {w : World} (hO : OrdR w bo oo no os) (hp : TpIn p) (ho : ∀ i, i < no → ToIn (os i)) (gno : no ≤ 4) : PatsIt p os bo oo no co w 0 := by
 intro xs ax nx cx bm bw l G1 J v1 hnx gxs hB0 hbm hbw hX hax hJs hJG hG1 hY hJ0
 have hnx' : nx = no := by omega
 have hnx_ : ((nx : Int) == (no : Int)) = true := beq_iff_eq.2 (by omega)
 refine callsIn_wide.2 (calls_frM (n := 9) Try.func141 Try.ntmps141 rfl rfl fun g hg => ?_)
 have k0 : g 0 = .func (.yield l) #[] #[] := hg 0
 have k1 : g 1 = .pointer (some ⟨bw, 0, none⟩) := hg 1
 have k2 : g 2 = .pointer (some ⟨bm, 0, none⟩) := hg 2
 clear hg
 have lt_bm := ltb hbm
 have lt_bw := ltb hbw
 refine rw_ 1 [(3, 0)] [[]] (rel [bx 0 #[.func (.yield l) #[] #[]] 180])
  ⟨fun f s W c j k m q a => opb rfl rfl (by simp [go_sem, a.e 0 k0]), trivial⟩ ?_
 intro f1 s1 W1 hB1 g1 hg1 z1
 have b1_0 := hB1.b hbm
 have b1_1 := hB1.b hbw
 have q1' := (hX.bw hB1)
 have q2' := (StabG.below hJs hJ0 hB1.below)
 obtain ⟨r1_0, br1_0⟩ := hB1.is 0
 have lr1_0 := hB1.lr 0 br1_0
 have k1_1 := kt hg1 1 k1
 have k1_2 := kt hg1 2 k2
 refine wp_seq_k fun K2 hK2 => ?_
 refine rw_ 6 [(6, 0), (7, 1), (8, 2), (9, 3), (10, 4), (11, 5)] [[], [0], [], [2], [2, 3], [0, 1, 2, 3, 4]] (rel [is (.slice ax nx cx), iI ((nx : Int)), is (.pointer (some ⟨bm, 4, none⟩)), is (.slice (some ⟨bo, oo, none⟩) no co), iI ((no : Int)), iB true])
  ⟨fun f s W c j k m q a => opv rfl rfl (by simp [go_sem, a.e 1 k1_1, cb b1_1 c 0]) rfl,
  fun f s W c j k m q a => opv rfl rfl (by simp [go_sem, a.e 6 (j 0 rfl)]) rfl,
  fun f s W c j k m q a => opv rfl rfl (by simp [go_sem, a.e 2 k1_2]) rfl,
  fun f s W c j k m q a => opv rfl rfl (by simp [go_sem, a.e 8 (j 2 rfl), cb b1_0 c 4]) rfl,
  fun f s W c j k m q a => opv rfl rfl (by simp [go_sem, a.e 9 (j 3 rfl)]) rfl,
  fun f s W c j k m q a => opv rfl rfl (by simp [go_sem, a.e 7 (j 1 rfl), a.e 10 (j 4 rfl), hnx_]) rfl, trivial⟩ ?_
 intro f2 s2 W2 hB2 g2 hg2 z2
 have fB2 := hB2.f (hB1.f hB0)
 have b2_0 := hB2.b b1_0
 have b2_1 := hB2.b b1_1
 have q3' := (q1'.bw hB2)
 have q4' := (StabG.below hJs q2' hB2.below)
 have k2_1 := kt hg2 1 k1_1
 have k2_2 := kt hg2 2 k1_2
 have k2_11 := kt hg2 11 (hB2.is 5)
 refine wp_cond_true ((fr_eval rfl).trans k2_11) ?_
 refine wp_seq_k fun K5 hK5 => ?_
 refine rw_ 3 [(12, 0), (13, 1), (14, 2)] [[], [], [0, 1]] (rel [is (.agg #[.int .i64 p.wide, .int .i64 p.tlo, .int .i64 p.thi, .int .i64 p.webs, .slice (some ⟨bo, oo, none⟩) no co]), is (.slice ax nx cx), iB ((patF p os xs no))])
  ⟨fun f s W c j k m q a => opl rfl rfl rfl (a.v 2 k2_2) (bwb b2_0 c) Try.underlying110 rfl (by kernel_rfl) rfl,
  fun f s W c j k m q a => opv rfl rfl (by simp [go_sem, a.e 1 k2_1, cb b2_1 c 0]) rfl,
  fun f s W c j k m q a => by have r := bwt fB2 c; exact opd rfl rfl (by simp [go_sem, a.e 12 (j 0 rfl), a.e 13 (j 1 rfl)]) (isPattern_any p os bo oo no co ax nx cx xs W (hO.below r) hp ho gno ((q3'.below c (Nat.le_refl _))) gxs (by omega)) ((fun e W' h => by have h1 := h.1; rw [hnx'] at h1; exact ⟨_, h1, h.2, rfl⟩)), trivial⟩ ?_
 intro f3 s3 W3 hB3 g3 hg3 z3
 have fB3 := hB3.f fB2
 have b3_1 := hB3.b b2_1
 have b3_2 := hB3.b (hB2.b br1_0)
 have q5' := (q3'.bw hB3)
 have q6' := (StabG.below hJs q4' hB3.below)
 have k3_3 := kt hg3 3 (kt hg2 3 (kt hg1 3 r1_0))
 have k3_14 := kt hg3 14 (hB3.is 2)
 refine wp_cond_split (t := (patF p os xs no)) ((fr_eval rfl).trans k3_14) (fun hc7 => ?_) (fun hc7 => ?_)
 ·
  have hc7' := hc7; try simp only [ba] at hc7'
  have hpl : patL p os no 0 xs = [xs] := if_pos hc7
  refine (wpIn_wide (n := 9)).1 (wpIn_region ?_)
  show wpOpsIn _ _ _ _ _ [0, 1, 2] _ _
  refine inP_value (o := _) rfl rfl rfl (v := .func (.yield l) #[] #[]) (by simp [go_sem, frv 38 k3_3, cl b3_2 0]) ?_
  generalize hg4 : upd g3 15 (.func (.yield l) #[] #[]) = g4
  have k4_1 := ku hg4 1 (kt hg3 1 k2_1)
  refine inP_value (o := _) rfl rfl rfl (v := .slice ax nx cx) (by simp [go_sem, frv 38 k4_1, cl b3_1 0]) ?_
  generalize hg5 : upd g4 16 (.slice ax nx cx) = g5
  have k5_15 := ku hg5 15 (kt hg4 15 (upd_same _ _ _))
  have k5_16 := kt hg5 16 (upd_same _ _ _)
  refine inP_round (o := _) (d := 17) rfl rfl rfl (l := l) (args := #[.slice ax nx cx]) (by simp [go_sem, frv 38 k5_15, frv 38 k5_16]) (yieldAt_fuel (hY 0 _ _ _ (by rw [hpl]; exact Nat.one_pos) q6' (by omega) ⟨_, _, _, rfl, by rw [hpl]; exact q5', fun b o e => .inr fun hb => (hG1 b hb).2.2 b o e rfl⟩)) ?_ (fun _ h => nomatch h.1) (fun _ _ h => nomatch h.1)
  rintro v_ W6 ⟨rv6, G', jj6, kx6, gg6⟩
  obtain rfl := Ending.returned.inj rv6
  refine hK5 _ _ ?_
  refine wp_ret ?_
  refine then_ret ?_
  refine leave_marks (v := .tuple #[]) (Ds := []) (.inr rfl) rfl rfl ⟨.nil, fun _ h => nomatch h⟩ (fun W' => by simp [results, Try.results141, go_sem]) fun W' hk => ⟨⟨_, rfl⟩, G', ?_⟩
  have := hJs _ _ _ _ jj6 (hk.more fun b hb => nomatch hb)
  rw [hpl]
  exact this
 ·
  have hc7' := hc7; try simp only [ba] at hc7'
  have hpl : patL p os no 0 xs = [] := if_neg (by simpa using hc7)
  refine wp_skip ?_
  refine hK5 _ _ ?_
  refine wp_ret ?_
  refine then_ret ?_
  refine leave_marks (v := .tuple #[]) (Ds := []) (.inr rfl) rfl rfl ⟨.nil, fun _ h => nomatch h⟩ (fun W' => by simp [results, Try.results141, go_sem]) fun W' hk => ⟨⟨_, rfl⟩, G1, ?_⟩
  have := hJs _ _ _ _ q6' (hk.more fun b hb => nomatch hb)
  rw [hpl]
  exact this
open Go.RowKit
def PtN (B : Nat) (p : Tp) (bo oo no co : Nat) (xs : List Int) (v : Value) (W : World) : Prop := ∃ g c bw bm, v = .func (.func 141) #[] #[.pointer (some ⟨bw, 0, none⟩), .pointer (some ⟨bm, 0, none⟩)] ∧ W.heap[bw]? = some (.cells #[.slice (some ⟨g, 0, none⟩) xs.length c] 25 (0, 0)) ∧ W.heap[bm]? = some (.cells #[.int .i64 p.wide, .int .i64 p.tlo, .int .i64 p.thi, .int .i64 p.webs, .slice (some ⟨bo, oo, none⟩) no co] 110 (0, 0)) ∧ Ii W (some ⟨g, 0, none⟩) xs.length c xs ∧ B ≤ bw ∧ B ≤ bm ∧ B ≤ g ∧ g < W.heap.size
theorem PtN.below {B : Nat} {p : Tp} {bo oo no co : Nat} {xs : List Int} {v : Value} {W W' : World} (h : PtN B p bo oo no co xs v W) (hb : Below W.heap.size W W') : PtN B p bo oo no co xs v W' := by
  obtain ⟨g, c, bw, bm, e, h1, h2, h3, h4, h5, h6, h7⟩ := h; exact ⟨g, c, bw, bm, e, bwb h1 hb, bwb h2 hb, h3.below hb (Nat.le_refl _), h4, h5, h6, Nat.lt_of_lt_of_le h7 hb.size⟩
theorem Ii.clip {W : World} {a : Option Addr} {n c : Nat} {xs : List Int} (h : Ii W a n c xs) : Ii W a n n xs := by
  obtain ⟨h0, h1, h2, h3, h4⟩ := h
  exact ⟨h0, Nat.le_refl _, Nat.le_trans h1 h2, fun e => by have := h3 e; omega, h4⟩
theorem appClipJ (ty : TypeId) {W : World} {a : Option Addr} {n b : Nat} {xs : List Int} {x : Int} (B : Nat) (h : Ii W a n n xs) (ha : AdOk a n) (hb : W.heap[b]? = some (.cells #[.int .i64 x] 3 (0, 0))) (hn : n ≤ 1000) (hB : B ≤ W.heap.size) :
    ∃ v W', (Builtin.append_ #[25, 25] ty #[.slice a n n, .slice (some ⟨b, 0, none⟩) 1 1]).run Try.prog W = .ok v W' ∧ Below W.heap.size W W' ∧ NwIi B (xs ++ [x]) v W' := by
  obtain ⟨v, W', r, b, g, c, e1, e2, e3, e4⟩ := appClipI ty h ha hb hn
  exact ⟨v, W', r, b, g, c, e1, e2, Nat.le_trans hB e3, e4⟩
theorem pats_s (p : Tp) (os : Nat → To) (bo oo no co : Nat) {w : World} (hO : OrdR w bo oo no os) (hp : TpIn p) (ho : ∀ i, i < no → ToIn (os i)) (gno : no ≤ 4) (d : Nat) (ih : PatsIt p os bo oo no co w d) : PatsIt p os bo oo no co w (d + 1) := by
  intro xs ax nx cx bm bw l G1 J v1 hnx gxs hB0 hbm hbw hX hax hJs hJG hG1 hY hJ0
  have hnx' : nx < no := by omega
  have hnx_ : ((nx : Int) == (no : Int)) = false := beq_eq_false_iff_ne.2 (by omega)
  have hncx : nx ≤ cx := hX.2.1
  have gw_ := hp.webs
  refine callsIn_wide.2 (calls_frM (n := 9) Try.func141 Try.ntmps141 rfl rfl fun g hg => ?_)
  have k0 : g 0 = .func (.yield l) #[] #[] := hg 0
  have k1 : g 1 = .pointer (some ⟨bw, 0, none⟩) := hg 1
  have k2 : g 2 = .pointer (some ⟨bm, 0, none⟩) := hg 2
  clear hg
  have lt_bm := ltb hbm
  have lt_bw := ltb hbw
  refine rw_ 1 [(3, 0)] [[]] (rel [bx 0 #[.func (.yield l) #[] #[]] 180])
    ⟨fun f s W q u y z B m => opb rfl rfl (by simp [go_sem, m.e 0 k0]), trivial⟩ ?_
  intro f1 s1 W1 hB1 g1 hg1 z1
  have b1_0 := hB1.b hbm
  have b1_1 := hB1.b hbw
  have q7' := (hX.bw hB1)
  have q8' := (StabG.below hJs hJ0 hB1.below)
  obtain ⟨r1_0, br1_0⟩ := hB1.is 0
  have lr1_0 := hB1.lr 0 br1_0
  have k1_1 := kt hg1 1 k1
  have k1_2 := kt hg1 2 k2
  refine wp_seq_k fun K2 hK2 => ?_
  refine rw_ 6 [(6, 0), (7, 1), (8, 2), (9, 3), (10, 4), (11, 5)] [[], [0], [], [2], [2, 3], [0, 1, 2, 3, 4]] (rel [is (.slice ax nx cx), iI ((nx : Int)), is (.pointer (some ⟨bm, 4, none⟩)), is (.slice (some ⟨bo, oo, none⟩) no co), iI ((no : Int)), iB false])
    ⟨fun f s W q u y z B m => opv rfl rfl (by simp [go_sem, m.e 1 k1_1, cb b1_1 q 0]) rfl,
    fun f s W q u y z B m => opv rfl rfl (by simp [go_sem, m.e 6 (u 0 rfl)]) rfl,
    fun f s W q u y z B m => opv rfl rfl (by simp [go_sem, m.e 2 k1_2]) rfl,
    fun f s W q u y z B m => opv rfl rfl (by simp [go_sem, m.e 8 (u 2 rfl), cb b1_0 q 4]) rfl,
    fun f s W q u y z B m => opv rfl rfl (by simp [go_sem, m.e 9 (u 3 rfl)]) rfl,
    fun f s W q u y z B m => opv rfl rfl (by simp [go_sem, m.e 7 (u 1 rfl), m.e 10 (u 4 rfl), hnx_]) rfl, trivial⟩ ?_
  intro f2 s2 W2 hB2 g2 hg2 z2
  have b2_0 := hB2.b b1_0
  have q9' := (q7'.bw hB2)
  have q10' := (StabG.below hJs q8' hB2.below)
  have k2_2 := kt hg2 2 k1_2
  have k2_11 := kt hg2 11 (hB2.is 5)
  refine wp_cond_false ((fr_eval rfl).trans k2_11) ?_
  refine wp_skip ?_
  refine hK2 _ _ ?_
  refine rw_ 5 [(18, 0), (19, 1), (20, 2), (21, 3), (22, 4)] [[], [0], [0, 1], [0, 1, 2], []] (rel [is (.pointer (some ⟨bm, 0, none⟩)), is (.pointer (some ⟨bm, 3, none⟩)), iI p.webs, iI (p.webs + 1), iI 0])
    ⟨fun f s W q u y z B m => opv rfl rfl (by simp [go_sem, m.e 2 k2_2]) rfl,
    fun f s W q u y z B m => opv rfl rfl (by simp [go_sem, m.e 18 (u 0 rfl)]) rfl,
    fun f s W q u y z B m => opv rfl rfl (by simp [go_sem, m.e 19 (u 1 rfl), cb b2_0 q 3]) rfl,
    fun f s W q u y z B m => opv rfl rfl (by simp [go_sem, m.e 20 (u 2 rfl), IntWalk.i64_in (p.webs + 1) (by omega)]) rfl,
    fun f s W q u y z B m => opv rfl rfl (by simp [go_sem]) rfl, trivial⟩ ?_
  intro f3 s3 W3 hB3 g3 hg3 z3
  have fB3 := hB3.f (hB2.f (hB1.f hB0))
  have b3_0 := hB3.b b2_0
  have b3_1 := hB3.b (hB2.b b1_1)
  have b3_2 := hB3.b (hB2.b br1_0)
  have q11' := (q9'.bw hB3)
  have q12' := (StabG.below hJs q10' hB3.below)
  have k3_1 := kt hg3 1 (kt hg2 1 k1_1)
  have k3_2 := kt hg3 2 k2_2
  have k3_3 := kt hg3 3 (kt hg2 3 (kt hg1 3 r1_0))
  have k3_21 := kt hg3 21 (hB3.is 3)
  have k3_22 := kt hg3 22 (hB3.is 4)
  refine wp_block ?_
  have hz0 : v1.heap.size ≤ W3.heap.size := by omega
  have lt_3 := ltb b3_2
  obtain ⟨b3, hb3⟩ : ∃ b, (s1 0) = b := ⟨_, rfl⟩
  have hb3v : v1.heap.size ≤ b3 := by rw [← hb3]; omega
  have lt_b3 : b3 < W3.heap.size := by rw [← hb3]; exact lt_3
  have k3_ : g3 3 = .pointer (some ⟨b3, 0, none⟩) := hb3 ▸ k3_3
  have hx3_ : W3.heap[b3]? = some (.cells #[.func (.yield l) #[] #[]] 180 (0, 0)) := hb3 ▸ b3_2
  refine wp_loop_n (fun m_ a_ W_ => ∃ (g_ : Nat → Value) (k : Nat) (Ds : List Nat) (G : Nat → Prop), a_ = frD (Ds.map mkD) 38 g_ ∧ m_ = p.webs.toNat + 1 - k ∧ g_ 1 = .pointer (some ⟨bw, 0, none⟩) ∧ g_ 2 = .pointer (some ⟨bm, 0, none⟩) ∧ g_ 3 = .pointer (some ⟨b3, 0, none⟩) ∧ g_ 21 = .int .i64 (p.webs + 1) ∧ g_ 22 = .int .i64 (k : Int) ∧ k ≤ p.webs.toNat + 1 ∧ Below w.heap.size w W_ ∧ W3.heap.size ≤ W_.heap.size ∧ W_.heap[bm]? = some (.cells #[.int .i64 p.wide, .int .i64 p.tlo, .int .i64 p.thi, .int .i64 p.webs, .slice (some ⟨bo, oo, none⟩) no co] 110 (0, 0)) ∧ W_.heap[bw]? = some (.cells #[.slice ax nx cx] 25 (0, 0)) ∧ W_.heap[b3]? = some (.cells #[.func (.yield l) #[] #[]] 180 (0, 0)) ∧ Ii W_ ax nx cx xs ∧ J (patN p os no d xs k) G W_ ∧ (∀ b, G b → b ≠ bm ∧ b ≠ bw ∧ b ≠ b3 ∧ (∀ b' o, ax = some ⟨b', o, none⟩ → xs = [] ∨ b ≠ b') ∧ b ∉ Ds) ∧ MarksOk W_ Ds ∧ (∀ D ∈ Ds, v1.heap.size ≤ D)) ⟨_, _, 0, [], G1, rfl, rfl, k3_1, k3_2, k3_, k3_21, k3_22, Nat.zero_le _, fB3, Nat.le_refl _, b3_0, b3_1, hx3_, q11', q12', fun b h => ⟨(hG1 b h).1, (hG1 b h).2.1, fun e => by have := (hJG 0 G1 v1 hJ0 b h).2; omega, fun b' o e => .inr ((hG1 b h).2.2 b' o e), by simp⟩, ⟨.nil, fun _ h => nomatch h⟩, fun _ h => nomatch h⟩ ?_
  have fB4' := fB3; have z4' : v1.heap.size ≤ W3.heap.size := by omega
  skip
  rintro _ _ WL ⟨gL, k, Ds, G, rfl, rfl, kL_1, kL_2, kL_3, kL_21, kL_22, hk, fBL, zL, bL_m, bL_w, bL_3, hXL, hJL, hGn, hmk, hDv⟩
  refine wp_seq_k fun K6 hK6 => ?_
  refine region_doD 1 [(23, 0)] [[]] (rel [is (.bool (decide ((k : Int) < (p.webs + 1))))]) (by kernel_rfl) (by kernel_rfl) (by kernel_rfl) (by kernel_rfl)
    ⟨is_k, trivial⟩
    ⟨fun f s W q u y z B m => opv rfl rfl (by simp [go_sem, m.e 22 kL_22, m.e 21 kL_21]) rfl, trivial⟩ ?_
  intro f4 s4 W4 hB4
  have z4 := hB4.below.size
  have q13' := (hXL.bw hB4)
  have q14' := (StabG.below hJs hJL hB4.below)
  have q15' := (MarksOk.keep hmk (KeepP.of_below (S := fun _ => False) hB4.below) (fun _ _ e => e))
  refine hK6 _ _ ?_
  generalize hg4 : ov [(23, 0)] f4 gL = g4
  have k4_22 := kt hg4 22 kL_22
  have k4_23 := kt hg4 23 (hB4.is 0)
  refine wp_seq_k fun K7 hK7 => ?_
  refine wp_cond_split (t := decide ((k : Int) < (p.webs + 1))) ((fr_eval rfl).trans k4_23) (fun hc8 => ?_) (fun hc8 => ?_)
  ·
    have hc8' := hc8; try simp only [ba] at hc8'
    have hkw_ : k < p.webs.toNat + 1 := by omega
    refine wp_skip ?_
    refine hK7 _ _ ?_
    refine wp_seq_k fun K9 hK9 => ?_
    refine wp_block ?_
    refine wp_seq_k fun K10 hK10 => ?_
    refine region_doD 2 [(24, 0), (4, 1)] [[], [0]] (rel [is (.int .i64 ((k : Int))),
      is (.int .i64 ((k : Int)))]) (by kernel_rfl) (by kernel_rfl) (by kernel_rfl) (by kernel_rfl)
      ⟨is_k, is_k, trivial⟩
      ⟨fun f s W q u y z B m => opv rfl rfl (by simp [go_sem, m.e 22 k4_22]) rfl,
    fun f s W q u y z B m => opv rfl rfl (by simp [go_sem, m.e 24 (u 0 rfl)]) rfl, trivial⟩ ?_
    intro f5 s5 W5 hB5
    have fB5 := hB5.f (hB4.f fBL)
    have z5 := hB5.below.size
    have b5_0 := hB5.b (hB4.b bL_m)
    have b5_1 := hB5.b (hB4.b bL_w)
    have q16' := (q13'.bw hB5)
    have q17' := (StabG.below hJs q14' hB5.below)
    have q18' := (MarksOk.keep q15' (KeepP.of_below (S := fun _ => False) hB5.below) (fun _ _ e => e))
    refine hK10 _ _ ?_
    generalize hg5 : ov [(24, 0), (4, 1)] f5 g4 = g5
    have k5_1 := kt hg5 1 (kt hg4 1 kL_1)
    have k5_2 := kt hg5 2 (kt hg4 2 kL_2)
    have k5_4 := kt hg5 4 (hB5.is 1)
    refine wp_seq_k fun K11 hK11 => ?_
    refine region_doD 7 [(25, 0), (26, 1), (27, 2), (28, 3), (29, 4), (30, 5), (31, 6)] [[], [], [1], [], [3], [1, 2, 3, 4], [0, 1, 2, 3, 4, 5]] (rel [is (.agg #[.int .i64 p.wide, .int .i64 p.tlo, .int .i64 p.thi, .int .i64 p.webs, .slice (some ⟨bo, oo, none⟩) no co]),
      is (.slice ax nx cx),
      is (.slice ax nx nx),
      is (.int .i64 ((k : Int))),
      row 4 1 #[.int .i64 ((k : Int))] 3,
      ab fun v W => NwIi W5.heap.size ((xs ++ [(k : Int)])) v W,
      ab fun v W => PtN W5.heap.size p bo oo no co ((xs ++ [(k : Int)])) v W]) (by kernel_rfl) (by kernel_rfl) (by kernel_rfl) (by kernel_rfl)
      ⟨is_k, is_k, is_k, is_k, row_k, ab_k fun v W W' hb h => h.below hb, ab_k fun v W W' hb h => h.below hb, trivial⟩
      ⟨fun f s W q u y z B m => opl rfl rfl rfl (m.v 2 k5_2) (bwb b5_0 q) Try.underlying110 rfl (by kernel_rfl) rfl,
    fun f s W q u y z B m => opv rfl rfl (by simp [go_sem, m.e 1 k5_1, cb b5_1 q 0]) rfl,
    fun f s W q u y z B m => opc rfl rfl (by simp [go_sem, m.e 26 (u 1 rfl)]) (clipI_any ax nx cx W hax hncx),
    fun f s W q u y z B m => opv rfl rfl (by simp [go_sem, m.e 4 k5_4]) rfl,
    fun f s W q u y z B m => opr rfl rfl (by simp [go_sem, m.e 28 (u 3 rfl)]),
    fun f s W q u y z B m => by have C := bwt fB5 q; obtain ⟨v_, W_, r_, b_, i_⟩ := appClipJ 25 (W := W) (xs := xs) (x := (k : Int)) W5.heap.size (Ii.clip ((q16'.below q (Nat.le_refl _)))) hax (u 4 rfl).2 (by omega) q.size; exact opDo_value rfl rfl (run_appendOp (m.v 27 (u 2 rfl)) (m.v 29 (u 4 rfl).1) r_) b_ i_,
    fun f s W q u y z B m => by obtain ⟨g19', c20', d5, q21', q22', q23'⟩ := (u 5 rfl); exact opd rfl rfl (by simp [go_sem, m.e 25 (u 0 rfl), m.e 30 d5]) (patterns_fn p bo oo no co (some ⟨g19', 0, none⟩) (((xs ++ [(k : Int)])).length) (c20') W) ((fun e W' h => by obtain ⟨v, e1, ⟨bw_, bm_, e2, e3, e4, e5, e6⟩, h2⟩ := h; exact ⟨_, e1, h2, ⟨_, _, bw_, bm_, e2, e3, e4, q21'.below h2 (Nat.le_refl _), Nat.le_trans q.size e5, Nat.le_trans q.size e6, q22', Nat.lt_of_lt_of_le q23' h2.size⟩⟩)), trivial⟩ ?_
    intro f6 s6 W6 hB6
    have fB6 := hB6.f fB5
    have z6 := hB6.below.size
    have b6_0 := hB6.b b5_0
    have b6_1 := hB6.b b5_1
    have b6_2 := hB6.b (hB5.b (hB4.b bL_3))
    have q24' := (q16'.bw hB6)
    have q25' := (StabG.below hJs q17' hB6.below)
    have q26' := (MarksOk.keep q18' (KeepP.of_below (S := fun _ => False) hB6.below) (fun _ _ e => e))
    obtain ⟨r6_4, br6_4⟩ := hB6.is 4
    have lr6_4 := hB6.lr 4 br6_4
    obtain ⟨g29', c30', bw27', bm28', r6_6, q31', q32', q33', q35', q36', q37', q34'⟩ := hB6.is 6
    refine hK11 _ _ ?_
    generalize hg6 : ov [(25, 0), (26, 1), (27, 2), (28, 3), (29, 4), (30, 5), (31, 6)] f6 g5 = g6
    have k6_3 := kt hg6 3 (kt hg5 3 (kt hg4 3 kL_3))
    have k6_22 := kt hg6 22 (kt hg5 22 k4_22)
    have k6_31 := kt hg6 31 r6_6
    refine wp_block ?_
    have lt_m2 := ltb q32'; have lt_w2 := ltb q31'; have lt_m := ltb b6_0; have lt_w := ltb b6_1; have lt_3' := ltb b6_2
    have zW : WL.heap.size ≤ W6.heap.size := by omega
    have hds : ∀ D ∈ Ds, D < W6.heap.size := fun D h => ltb (q26'.2 D h)
    have hxb := q24'.blk
    have hGW : ∀ b, G b → b < WL.heap.size := fun b h => (hJG _ _ _ hJL b h).2
    have hGb : ∀ b, G b → w.heap.size ≤ b := fun b h => (hJG _ _ _ hJL b h).1
    have hlen : xs.length = nx := hX.1.symm
    have hkw : k < p.webs.toNat + 1 := by omega
    obtain ⟨I, hI⟩ : ∃ I : Nat → (Nat → Prop) → World → Prop, I = fun j G_ W_ => J (patN p os no d xs k + j) G_ W_ ∧ Below w.heap.size w W_ ∧ W6.heap.size ≤ W_.heap.size ∧ W_.heap[bm]? = some (.cells #[.int .i64 p.wide, .int .i64 p.tlo, .int .i64 p.thi, .int .i64 p.webs, .slice (some ⟨bo, oo, none⟩) no co] 110 (0, 0)) ∧ W_.heap[bw]? = some (.cells #[.slice ax nx cx] 25 (0, 0)) ∧ W_.heap[b3]? = some (.cells #[.func (.yield l) #[] #[]] 180 (0, 0)) ∧ Ii W_ ax nx cx xs ∧ MarksOk W_ Ds ∧ (∀ b, G_ b → b ≠ bm ∧ b ≠ bw ∧ b ≠ b3 ∧ (∀ b' o, ax = some ⟨b', o, none⟩ → xs = [] ∨ b ≠ b') ∧ b ∉ Ds) := ⟨_, rfl⟩
    obtain ⟨AA, hA⟩ : ∃ A : Nat → (Nat → Prop) → Act → World → Prop, A = fun j G_ a' W_ => ∃ g' : Nat → Value, a' = fr 38 g' ∧ g' 3 = .pointer (some ⟨b3, 0, none⟩) ∧ ∃ a n c, g' 5 = .slice a n c ∧ Ii W_ a n c ((patL p os no d (xs ++ [(k : Int)])).getD j []) ∧ ∀ b o, a = some ⟨b, o, none⟩ → (patL p os no d (xs ++ [(k : Int)])).getD j [] = [] ∨ ¬ G_ b := ⟨_, rfl⟩
    refine (wpIn_wide (n := 10)).1 (range_g (n := 10) (gf := 141) (rcv := #[]) (lb := #[.pointer (some ⟨bw27', 0, none⟩), .pointer (some ⟨bm28', 0, none⟩)]) ((fr_eval rfl).trans k6_31) (enters_of Try.func141 (by kernel_rfl) rfl) (patL p os no d (xs ++ [(k : Int)])).length (EncP (patL p os no d (xs ++ [(k : Int)]))) (fun i G v W h => by obtain ⟨a, n, c, e, -⟩ := h; rw [e]; rfl) I ?hI G (fun b h => by have := hGW b h; omega) ?hit ?h0 AA ?hAp ?hassign ?hbody ?hdone)
    case hI =>
      subst hI
      rintro j G_ X Y ⟨h1, h2, h3, h4, h5, h6, h7, h8, h9⟩ hk_
      exact ⟨hJs _ _ _ _ h1 (hk_.more fun b hb => ⟨by omega, hb.2⟩), h2.trans (hk_.below (fun b hb => by have := fB6.size; omega) h2.size), Nat.le_trans h3 hk_.size, hk_.block _ _ (fun e => by omega) h4, hk_.block _ _ (fun e => by omega) h5, hk_.block _ _ (fun e => by omega) h6, h7.keep hk_ (fun b o e => (hxb b o e).imp id fun h e => by omega), h8.keep hk_ (fun D h e => by have := hds D h; omega), h9⟩
    case hit =>
      intro l' W1 J' hl hl1 hb1 hJ's hJ'I hY' hJ0'
      have hz1 := hb1.size
      refine ih (xs ++ [(k : Int)]) (some ⟨g29', 0, none⟩) _ c30' bm28' bw27' l' G J' W1 (by simp; omega) (fun x hx => ?_) (fB6.trans (hb1.mono fB6.size)) (bwb q32' hb1) (bwb q31' hb1) (q33'.below hb1 (Nat.le_refl _)) (.inr ⟨_, _, rfl⟩) hJ's (fun i G_ X h b hb => by have h2 := hJ'I i G_ X h; subst hI; exact hJG _ _ _ h2.1 b hb) (fun b hb => ⟨fun e => by have := hGW b hb; omega, fun e => by have := hGW b hb; omega, fun b' o e => by cases e; exact fun e => by have := hGW b hb; omega⟩) hY' hJ0'
      rcases List.mem_append.1 hx with h | h
      · exact gxs x h
      · rw [List.mem_singleton.1 h]; have := hp.webs; omega
    case h0 =>
      subst hI
      exact ⟨q25', fB6, Nat.le_refl _, b6_0, b6_1, b6_2, q24', q26', hGn⟩
    case hAp =>
      subst hA
      rintro j G_ a' X r o hl ⟨g', h1, h2, a, n, c, h3, h4, h5⟩
      exact ⟨g', h1, h2, a, n, c, h3, h4.putLoop hl, h5⟩
    case hassign =>
      rintro l' j G_ X v K hj hIX hsz ⟨a, n, c, rfl, hv, hvg⟩ hK
      have e : ({ tmps := ((#[32] : Array Tmp).zip #[.slice a n c]).foldl (fun t (p, v) => t.setIfInBounds p v) (frD (Ds.map mkD) 38 g6).tmps, defers := [] } : Act) = fr 38 (upd g6 32 (.slice a n c)) := by
        rw [foldl_one]; exact fr_set
      rw [e]
      refine wpIn_region ?_
      show wpOpsIn _ _ _ _ _ [0] _ _
      refine inQ_value (o := _) rfl rfl (fun _ h => nomatch h) rfl (v := .slice a n c) (by simp [go_sem, frv 38 (upd_same g6 32 (.slice a n c))]) ?_
      refine hK _ _ (Below.refl _ _) ?_
      subst hA
      exact ⟨_, rfl, (upd_other _ _ (by decide)).trans ((upd_other _ _ (by decide)).trans k6_3), a, n, c, upd_same _ _ _, hv, hvg⟩
    case hbody =>
      intro l' j G_ a' X hj hIX hAX
      subst hI hA
      obtain ⟨h1, h2, h3, h4, h5, h6, h7, h8, h9⟩ := hIX
      obtain ⟨g', rfl, q3, a, n, c, q5, hv, hvg⟩ := hAX
      refine wpIn_block (wpIn_seq (wpIn_region ?_))
      show wpOpsIn (Fence.wide.inRound l') _ _ _ _ [0, 1, 2, 3] _ _
      obtain ⟨YV_, hYV⟩ : ∃ v : Value, .func (.yield l) #[] #[] = v := ⟨_, rfl⟩
      have u5 : upd g' 33 YV_ 5 = .slice a n c := (upd_other _ _ (by decide)).trans q5
      have u33 : upd (upd g' 33 YV_) 34 (.slice a n c) 33 = YV_ := (upd_other _ _ (by decide)).trans (upd_same _ _ _)
      have u34 : upd (upd g' 33 YV_) 34 (.slice a n c) 34 = .slice a n c := upd_same _ _ _
      have u35 : upd (upd (upd g' 33 YV_) 34 (.slice a n c)) 35 (.bool true) 35 = .bool true := upd_same _ _ _
      have u36 : upd (upd (upd (upd g' 33 YV_) 34 (.slice a n c)) 35 (.bool true)) 36 (.bool false) 36 = .bool false := upd_same _ _ _
      subst hYV
      refine inQ_value (o := _) rfl rfl (fun _ h => nomatch h) rfl (v := .func (.yield l) #[] #[]) (by simp [go_sem, frv 38 q3, cl h6 0]) ?_
      refine inQ_value (o := _) rfl rfl (fun _ h => nomatch h) rfl (v := .slice a n c) (by simp [go_sem, frv 38 u5]) ?_
      refine inQ_round (o := _) (d := 35) rfl rfl (fun _ h => nomatch h) rfl (l := l) (args := #[.slice a n c]) (by simp [go_sem, frv 38 u33, frv 38 u34]) (yieldAt_fuel (hY _ _ X _ (Nat.lt_of_lt_of_le (Nat.add_lt_add_left hj _) (patN_le p os no d xs hkw)) h1 (by omega) ⟨a, n, c, rfl, by rw [patL_at p os no d xs hkw hj]; exact hv, by rw [patL_at p os no d xs hkw hj]; exact hvg⟩)) ?_ (fun _ h => nomatch h.1) (fun _ _ h => nomatch h.1)
      rintro v_ Y ⟨rv, G', jj, kx, gg⟩
      obtain rfl := Ending.returned.inj rv
      have kz := kx.size
      refine inQ_value (o := _) rfl rfl (fun _ h => nomatch h) rfl (v := .bool false) (by simp [go_sem, frv 38 u35]) ?_
      refine wpIn_cond_false ((fr_eval rfl).trans u36) (wpIn_skip ⟨rfl, G', ⟨jj, h2.trans (kx.below (fun b hb => (hJG _ _ _ h1 b hb).1) h2.size), by omega, kx.block _ _ (fun e => (h9 _ e).1 rfl) h4, kx.block _ _ (fun e => (h9 _ e).2.1 rfl) h5, kx.block _ _ (fun e => (h9 _ e).2.2.1 rfl) h6, h7.keep kx (fun b o e => (Classical.em (G_ b)).elim (fun hb => ((h9 b hb).2.2.2.1 b o e).imp id fun h => absurd rfl h) .inr), h8.keep kx (fun D hD e => (h9 D e).2.2.2.2 hD), fun b hb => (gg b hb).elim (h9 b) fun h => ⟨by omega, by omega, by omega, fun b' o e => (hxb b' o e).imp id fun h => by omega, fun hD => by have := hds b hD; omega⟩⟩, kx, gg⟩)
    case hdone =>
      intro D G' Z hD hnD hIZ hdZ
      subst hI
      obtain ⟨h1, h2, h3, h4, h5, h6, h7, h8, h9⟩ := hIZ
      have eD : ({ frD (Ds.map mkD) 38 g6 with defers := { target := .collected D, args := #[] } :: (frD (Ds.map mkD) 38 g6).defers } : Act) = frD ((D :: Ds).map mkD) 38 g6 := rfl
      rw [eD]
      have hmk' : MarksOk Z (D :: Ds) := ⟨List.pairwise_cons.2 ⟨fun E hE e => by have := hds E hE; omega, h8.1⟩, fun E hE => (List.mem_cons.1 hE).elim (fun e => e ▸ hdZ) (h8.2 E)⟩
      have hGn' : ∀ b, G' b → b ≠ bm ∧ b ≠ bw ∧ b ≠ b3 ∧ (∀ b' o, ax = some ⟨b', o, none⟩ → xs = [] ∨ b ≠ b') ∧ b ∉ D :: Ds := fun b hb => ⟨(h9 b hb).1, (h9 b hb).2.1, (h9 b hb).2.2.1, (h9 b hb).2.2.2.1, fun h => (List.mem_cons.1 h).elim (fun e => hnD (e ▸ hb)) (h9 b hb).2.2.2.2⟩
      have hDv' : ∀ E ∈ D :: Ds, v1.heap.size ≤ E := fun E hE => (List.mem_cons.1 hE).elim (fun e => by omega) (hDv E)
      have hZz : WL.heap.size ≤ Z.heap.size := by omega
      refine ibn ?_
      refine ibn ?_
      refine hK9 _ _ ?_
      refine region_doD 2 [(37, 0), (22, 1)] [[], [0]] (rel [is (.int .i64 ((k : Int) + 1)),
      is (.int .i64 ((k : Int) + 1))]) (by kernel_rfl) (by kernel_rfl) (by kernel_rfl) (by kernel_rfl)
        ⟨is_k, is_k, trivial⟩
        ⟨fun f s W q u y z B m => opv rfl rfl (by simp [go_sem, m.e 22 ((z 1 22 rfl rfl).trans k6_22), IntWalk.i64_in ((k : Int) + 1) (by omega)]) rfl,
    fun f s W q u y z B m => opv rfl rfl (by simp [go_sem, m.e 37 (u 0 rfl)]) rfl, trivial⟩ ?_
      intro f7 s7 W7 hB7
      have fB7 := hB7.f h2
      have z7 := hB7.below.size
      have b7_0 := hB7.b h4
      have b7_1 := hB7.b h5
      have b7_2 := hB7.b h6
      have q38' := (h7.bw hB7)
      have q39' := (StabG.below hJs h1 hB7.below)
      have q40' := (MarksOk.keep hmk' (KeepP.of_below (S := fun _ => False) hB7.below) (fun _ _ e => e))
      refine wpe ?_
      generalize hg7 : ov [(37, 0), (22, 1)] f7 g6 = g7
      have k7_1 := kt hg7 1 (kt hg6 1 k5_1)
      have k7_2 := kt hg7 2 (kt hg6 2 k5_2)
      have k7_3 := kt hg7 3 k6_3
      have k7_21 := kt hg7 21 (kt hg6 21 (kt hg5 21 (kt hg4 21 kL_21)))
      have k7_22 := kt hg7 22 (hB7.is 1)
      refine then_normal ?_
      exact ⟨_, by omega, g7, k + 1, D :: Ds, G', rfl, rfl, k7_1, k7_2, k7_3, k7_21, k7_22.trans (by push_cast; rfl), by omega, fB7, by omega, b7_0, b7_1, b7_2, q38', q39', hGn', q40', hDv'⟩
  ·
    have hc8' := hc8; try simp only [ba] at hc8'
    have hke : k = p.webs.toNat + 1 := by omega
    refine wp_exit ?_
    refine then_exit ?_
    refine then_exit ?_
    refine inBlock_at ?_
    refine leave_marks (v := .tuple #[]) (Ds := Ds) (.inl rfl) rfl rfl q15' (fun W' => by simp [results, Try.results141, go_sem]) fun W' hk => ⟨⟨_, rfl⟩, G, ?_⟩
    have := hJs _ _ _ _ q14' (hk.more fun b hb => ⟨hDv b hb, fun e => (hGn b e).2.2.2.2 hb, noCells_of (q15'.2 b hb) (fun _ _ _ h => nomatch h)⟩)
    rw [hke, patN_end] at this
    exact this
theorem pats_it (p : Tp) (os : Nat → To) (bo oo no co : Nat) {w : World} (hO : OrdR w bo oo no os) (hp : TpIn p) (ho : ∀ i, i < no → ToIn (os i)) (gno : no ≤ 4) : ∀ d, PatsIt p os bo oo no co w d
  | 0 => pats_0 p os bo oo no co hO hp ho gno
  | d + 1 => pats_s p os bo oo no co hO hp ho gno d (pats_it p os bo oo no co hO hp ho gno d)
end Go.Proofs.Ytcgccflcjejlhaa
