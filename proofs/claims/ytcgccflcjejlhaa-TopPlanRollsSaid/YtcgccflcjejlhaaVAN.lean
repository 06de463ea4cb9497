/- Part of the proof: what the claim leans on. -/
import Derived.Test.YtcgccflcjejlhaaVAM
set_option maxHeartbeats 4000000
set_option maxRecDepth 100000
set_option linter.unusedSimpArgs false
set_option linter.unusedVariables false
namespace Go.Proofs.Ytcgccflcjejlhaa
open Go.RowKit
def obdF (os : Nat → To) (gs : List Int) (i : Nat) : Bool := !(within (os i).lo (os i).hi [elT gs i])
def wrF (os : Nat → To) (gs : List Int) : Nat → Nat → Int
  | 0, _ => -1
  | n + 1, i => if obdF os gs i then (i : Int) else wrF os gs n (i + 1)
theorem wrF_bd (os : Nat → To) (gs : List Int) : ∀ n i : Nat, -1 ≤ wrF os gs n i ∧ wrF os gs n i ≤ ((i + n : Nat) : Int)
  | 0, i => ⟨by show (-1 : Int) ≤ -1; omega, by show (-1 : Int) ≤ _; omega⟩
  | n + 1, i => by
    have h := wrF_bd os gs n (i + 1)
    unfold wrF; split <;> omega
def addK (gs xs : List Int) (r : Int) : Nat → List Int
  | 0 => gs
  | k + 1 => (addK gs xs r k).set k (elT (addK gs xs r k) k + elT xs k * r)
theorem addK_len (gs xs : List Int) (r : Int) : ∀ k, (addK gs xs r k).length = gs.length
  | 0 => rfl
  | k + 1 => by rw [addK, List.length_set, addK_len]
theorem elT_set (l : List Int) (i j : Nat) (x : Int) : elT (l.set i x) j = if j = i ∧ i < l.length then x else elT l j := by
  unfold elT
  rw [List.getD_eq_getElem?_getD, List.getD_eq_getElem?_getD]
  by_cases e : i = j
  · subst e
    by_cases h : i < l.length
    · rw [List.getElem?_set_self h, if_pos ⟨rfl, h⟩]; rfl
    · rw [if_neg (fun h' => h h'.2), List.getElem?_eq_none (by simpa using h), List.getElem?_eq_none (by simpa using h)]
  · rw [List.getElem?_set_ne e, if_neg (fun h => e h.1.symm)]
theorem addK_at (gs xs : List Int) (r : Int) : ∀ k i, k ≤ gs.length → elT (addK gs xs r k) i = if i < k then elT gs i + elT xs i * r else elT gs i
  | 0, i, _ => by rw [if_neg (Nat.not_lt_zero _)]; rfl
  | k + 1, i, h => by
    rw [addK, elT_set, addK_len, addK_at gs xs r k k (by omega), addK_at gs xs r k i (by omega), if_neg (Nat.lt_irrefl k)]
    by_cases e : i = k
    · subst e; rw [if_pos ⟨rfl, by omega⟩, if_pos (by omega)]
    · rw [if_neg (fun h => e h.1)]
      by_cases h2 : i < k
      · rw [if_pos h2, if_pos (by omega)]
      · rw [if_neg h2, if_neg (by omega)]
def roomS (os : Nat → To) (gs xs : List Int) (last : Bool) : Nat → Option (Int × Int)
  | 0 => some (1, 30)
  | k + 1 => match roomS os gs xs last k with
    | none => none
    | some (l, h) => if 0 < elT xs k then some (if last then max l (((os k).lo - elT gs k + elT xs k - 1).tdiv (elT xs k)) else l, min h (((os k).hi - elT gs k).tdiv (elT xs k)))
      else if last && decide (elT gs k < (os k).lo) then none else some (l, h)
theorem roomS_none {os : Nat → To} {gs xs : List Int} {last : Bool} {k : Nat} (h : roomS os gs xs last k = none) : ∀ d, roomS os gs xs last (k + d) = none
  | 0 => h
  | d + 1 => by rw [← Nat.add_assoc, roomS, roomS_none h d]
def roomF (os : Nat → To) (gs xs : List Int) (last : Bool) (n : Nat) : Int × Int := (roomS os gs xs last n).getD (1, 0)
theorem tdiv_bd {a b M : Int} (h : -M ≤ a ∧ a ≤ M) (hb : 1 ≤ b) (hM : 0 ≤ M) : -M ≤ a.tdiv b ∧ a.tdiv b ≤ M := by
  rcases Int.le_total 0 a with h0 | h0
  · rw [Int.tdiv_eq_ediv_of_nonneg h0]
    have h1 := Int.ediv_nonneg h0 (show 0 ≤ b by omega)
    have h2 := Int.ediv_le_self b h0
    omega
  · have e : a.tdiv b = -((-a) / b) := by
      have := Int.neg_tdiv (a := -a) (b := b)
      rw [Int.neg_neg] at this
      rw [this, Int.tdiv_eq_ediv_of_nonneg (by omega)]
    rw [e]
    have h1 := Int.ediv_nonneg (show 0 ≤ -a by omega) (show 0 ≤ b by omega)
    have h2 := Int.ediv_le_self b (show 0 ≤ -a by omega)
    omega
theorem roomS_bd {os : Nat → To} {gs xs : List Int} {last : Bool} {n : Nat} (ho : ∀ i, i < n → ToIn (os i)) (hg : ∀ i, 0 ≤ elT gs i ∧ elT gs i ≤ 1000) (hx : ∀ i, 0 ≤ elT xs i ∧ elT xs i ≤ 4) : ∀ k, k ≤ n → ∀ l h, roomS os gs xs last k = some (l, h) → 1 ≤ l ∧ l ≤ 2000 ∧ -2000 ≤ h ∧ h ≤ 30
  | 0, _, l, h, e => by cases e; omega
  | k + 1, hk, l, h, e => by
    unfold roomS at e
    split at e
    · cases e
    · rename_i l0 h0 e0
      have ih := roomS_bd ho hg hx k (by omega) l0 h0 e0
      have h1 := hg k; have h2 := hx k; have h3 := (ho k (by omega)).need
      split at e
      · rename_i hp
        have d1 := tdiv_bd (a := (os k).lo - elT gs k + elT xs k - 1) (b := elT xs k) (M := 2000) (by omega) (by omega) (by omega)
        have d2 := tdiv_bd (a := (os k).hi - elT gs k) (b := elT xs k) (M := 2000) (by omega) (by omega) (by omega)
        simp only [Option.some.injEq, Prod.mk.injEq] at e
        obtain ⟨rfl, rfl⟩ := e
        split <;> omega
      · split at e
        · cases e
        · cases e; exact ih
theorem wrong_any (p : Tp) (os : Nat → To) (bo oo no co : Nat) (ag : Option Addr) (ng cg : Nat) (gs : List Int) (w : World) (hO : OrdR w bo oo no os) (gno : no ≤ 4) (hG : Ii w ag ng cg gs) (gng : ng = no) :
  Calls Try.prog 79 #[.agg #[.int .i64 p.wide, .int .i64 p.tlo, .int .i64 p.thi, .int .i64 p.webs, .slice (some ⟨bo, oo, none⟩) no co], .slice ag ng cg] w (fun e w' => e = .returned (.int .i64 (wrF os gs no 0)) ∧ Below w.heap.size w w') := by
 obtain ⟨bg, og, hG_⟩ := hG.open
 refine calls_fr Try.func79 Try.ntmps79 rfl rfl fun g hg => ?_
 have k0 : g 0 = .agg #[.int .i64 p.wide, .int .i64 p.tlo, .int .i64 p.thi, .int .i64 p.webs, .slice (some ⟨bo, oo, none⟩) no co] := hg 0
 have k1 : g 1 = .slice ag ng cg := hg 1
 clear hg
 have fB0 : Below w.heap.size w w := Below.refl _ _
 refine rw_ 2 [(2, 0), (4, 1)] [[], []] (rel [bx 0 #[.int .i64 p.wide, .int .i64 p.tlo, .int .i64 p.thi, .int .i64 p.webs, .slice (some ⟨bo, oo, none⟩) no co] 110, iI 0])
  ⟨fun f s W c d h i j a => opb rfl rfl (by simp [go_sem, a.e 0 k0]),
  fun f s W c d h i j a => opz, trivial⟩ ?_
 intro f1 s1 W1 hB1 g1 hg1 z1
 obtain ⟨r1_0, br1_0⟩ := hB1.is 0
 have lr1_0 := hB1.lr 0 br1_0
 have k1_2 := kt hg1 2 r1_0
 refine wp_seq_k fun K2 hK2 => ?_
 refine rw_ 4 [(7, 0), (8, 1), (9, 2), (10, 3)] [[], [0], [1], []] (rel [is (.pointer (some ⟨(s1 0), 4, none⟩)), is (.slice (some ⟨bo, oo, none⟩) no co), iI ((no : Int)), iI 0])
  ⟨fun f s W c d h i j a => opv rfl rfl (by simp [go_sem, a.e 2 k1_2]) rfl,
  fun f s W c d h i j a => opv rfl rfl (by simp [go_sem, a.e 7 (d 0 rfl), cb br1_0 c 4]) rfl,
  fun f s W c d h i j a => opv rfl rfl (by simp [go_sem, a.e 8 (d 1 rfl)]) rfl,
  fun f s W c d h i j a => opz, trivial⟩ ?_
 intro f2 s2 W2 hB2 g2 hg2 z2
 have fB2 := hB2.f (hB1.f fB0)
 have b2_0 := hB2.b br1_0
 have k2_1 := kt hg2 1 (kt hg1 1 k1)
 have k2_4 := kt hg2 4 (kt hg1 4 (hB1.is 1))
 have k2_8 := kt hg2 8 (hB2.is 1)
 have k2_9 := kt hg2 9 (hB2.is 2)
 have k2_10 := kt hg2 10 (hB2.is 3)
 refine wp_block ?_
 refine wp_loop_n (fun m_ a_ W_ => ∃ g_ : Nat → Value, a_ = fr 30 g_ ∧ (∃ k : Nat, m_ = no - k ∧ g_ 1 = .slice ag ng cg ∧ g_ 4 = .int .i64 0 ∧ g_ 8 = .slice (some ⟨bo, oo, none⟩) no co ∧ g_ 9 = .int .i64 ((no : Int)) ∧ g_ 10 = .int .i64 ((k : Int)) ∧ Below w.heap.size w W_ ∧ W2.heap.size ≤ W_.heap.size ∧ W_.heap[(s1 0)]? = some (.cells #[.int .i64 p.wide, .int .i64 p.tlo, .int .i64 p.thi, .int .i64 p.webs, .slice (some ⟨bo, oo, none⟩) no co] 110 (0, 0)) ∧ (k ≤ no) ∧ (wrF os gs (no - k) k = wrF os gs no 0))) ⟨_, g2, rfl, 0, rfl, k2_1, k2_4, k2_8, k2_9, k2_10.trans (by rfl), fB2, Nat.le_refl _, b2_0, (by omega), rfl⟩ ?_
 rintro _ _ W_1 ⟨g_1, rfl, k, rfl, k_1_1, k_1_4, k_1_8, k_1_9, k_1_10, fB_1, z_1, b_1_0, lk0, lk1⟩
 refine rw_ 1 [(11, 0)] [[]] (rel [iB (decide ((k : Int) < (no : Int)))])
  ⟨fun f s W c d h i j a => opv rfl rfl (by simp [go_sem, a.e 10 k_1_10, a.e 9 k_1_9]) rfl, trivial⟩ ?_
 intro f3 s3 W3 hB3 g3 hg3 z3
 have fB3 := hB3.f fB_1
 have k3_8 := kt hg3 8 k_1_8
 have k3_10 := kt hg3 10 k_1_10
 have k3_11 := kt hg3 11 (hB3.is 0)
 refine wp_seq_k fun K5 hK5 => ?_
 refine wp_cond_split (t := decide ((k : Int) < (no : Int))) ((fr_eval rfl).trans k3_11) (fun hc6 => ?_) (fun hc6 => ?_)
 ·
  have hc6' := hc6; try simp only [ba] at hc6'
  have hkn : k < no := by omega
  refine wp_skip ?_
  refine hK5 _ _ ?_
  refine wp_seq_k fun K7 hK7 => ?_
  refine wp_block ?_
  refine wp_seq_k fun K8 hK8 => ?_
  refine ry 5 [(12, 0), (13, 1), (14, 2), (6, 3), (5, 4)] [[], [], [1], [], [0], [0, 1, 2, 3, 4]] (rel [iI ((k : Int)), is (.pointer (some ⟨bo, oo + k * 3, none⟩)), is (.agg #[.int .i64 ((os k).wd), .int .i64 ((os k).lo), .int .i64 ((os k).hi)]), bx 3 #[.int .i64 0, .int .i64 0, .int .i64 0] 65, iI ((k : Int))])
   ⟨fun f s W c d h i j a => opm (a.v 10 k3_10),
  fun f s W c d h i j a => by have li_ := Nat.not_le.2 (show k < no by omega); have li2_ : (k : Int) < (no : Int) := (by omega); exact opv rfl rfl (by simp [go_sem, a.e 8 k3_8, a.e 10 k3_10, li_, li2_]) rfl,
  fun f s W c d h i j a => by have l := bwt fB3 c; have cu_ := (hO.below l).2 k (by omega); have cu0_ : W.cell? ⟨bo, oo + k * 3, none⟩ = some (.int .i64 (os k).wd) := cu_.1; have cu1_ : W.cell? ⟨bo, oo + k * 3 + 1, none⟩ = some (.int .i64 (os k).lo) := cu_.2.1; have cu2_ : W.cell? ⟨bo, oo + k * 3 + 2, none⟩ = some (.int .i64 (os k).hi) := cu_.2.2; exact opv rfl rfl (by simp [go_sem, a.e 13 (d 1 rfl), cu0_, cu1_, cu2_]) rfl,
  fun f s W c d h i j a => opb rfl rfl (by simp [go_sem]),
  fun f s W c d h i j a => opm (a.v 12 (d 0 rfl)), trivial⟩ ?_
  intro f4 s4 W4 hB4 g4 hg4 z4
  have fB4 := hB4.f fB3
  have b4_0 := hB4.b (hB3.b b_1_0)
  obtain ⟨r4_3, br4_3⟩ := hB4.is 3
  have lr4_3 := hB4.lr 3 br4_3
  have k4_1 := kt hg4 1 (kt hg3 1 k_1_1)
  have k4_14 := kt hg4 14 (hB4.is 2)
  have k4_6 := kt hg4 6 r4_3
  have k4_5 := kt hg4 5 (hB4.is 4)
  obtain ⟨W5, hW5⟩ : ∃ W', W' = W4.setRow (s4 3) #[.int .i64 ((os k).wd), .int .i64 ((os k).lo), .int .i64 ((os k).hi)] := ⟨_, rfl⟩
  refine tsk (o := _) rfl ⟨rfl, rfl⟩ (run_seg hW5 (fr_ev k4_6) (fr_ev k4_14) br4_3 rfl rfl rfl rfl) ?_
  obtain ⟨fB5, nb5, ot5, z5⟩ := sgf hW5 fB4 br4_3 (by omega)
  clear hW5
  have b5_0 := ot5 _ _ (by omega) b4_0
  refine wpe ?_
  refine hK8 _ _ ?_
  refine rw_ 13 [(15, 0), (16, 1), (17, 2), (18, 3), (19, 4), (20, 5), (21, 6), (22, 7), (23, 8), (24, 9), (25, 10), (26, 11), (27, 12)] [[], [0], [1], [], [3], [4], [], [], [6, 7], [8], [9], [2, 5, 10], [11]] (rel [is (.pointer (some ⟨(s4 3), 1, none⟩)), is (.pointer (some ⟨(s4 3), 1, none⟩)), iI ((os k).lo), is (.pointer (some ⟨(s4 3), 1, none⟩)), is (.pointer (some ⟨(s4 3), 2, none⟩)), iI ((os k).hi), is (.slice ag ng cg), iI ((k : Int)), is (.pointer (some ⟨bg, og + k, none⟩)), iI ((elT gs k)), row 10 1 #[.int .i64 ((elT gs k))] 3, iB (within ((os k).lo) ((os k).hi) [(elT gs k)]), iB (!(within ((os k).lo) ((os k).hi) [(elT gs k)]))])
   ⟨fun f s W c d h i j a => opv rfl rfl (by simp [go_sem, a.e 6 k4_6]) rfl,
  fun f s W c d h i j a => opv rfl rfl (by simp [go_sem, a.e 15 (d 0 rfl)]) rfl,
  fun f s W c d h i j a => opv rfl rfl (by simp [go_sem, a.e 16 (d 1 rfl), cb nb5 c 1]) rfl,
  fun f s W c d h i j a => opv rfl rfl (by simp [go_sem, a.e 6 k4_6]) rfl,
  fun f s W c d h i j a => opv rfl rfl (by simp [go_sem, a.e 18 (d 3 rfl)]) rfl,
  fun f s W c d h i j a => opv rfl rfl (by simp [go_sem, a.e 19 (d 4 rfl), cb nb5 c 2]) rfl,
  fun f s W c d h i j a => opm (a.v 1 k4_1),
  fun f s W c d h i j a => opm (a.v 5 k4_5),
  fun f s W c d h i j a => by have hab := (hG_ (by omega)).1; have li_ := Nat.not_le.2 (show k < ng by omega); have li2_ : (k : Int) < (ng : Int) := (by omega); exact opv rfl rfl (by simp [go_sem, a.e 21 (d 6 rfl), a.e 22 (d 7 rfl), hab, li_, li2_]) rfl,
  fun f s W c d h i j a => by have l := bwt fB5 c; have cu_ := (hG_ (by omega)).2 W l k (by omega); exact opv rfl rfl (by simp [go_sem, a.e 23 (d 8 rfl), cu_]) rfl,
  fun f s W c d h i j a => opr rfl rfl (by simp [go_sem, a.e 24 (d 9 rfl)]),
  fun f s W c d h i j a => opc (args := #[.int .i64 ((os k).lo), .int .i64 ((os k).hi), .slice (some ⟨(s 10), 0, none⟩) (1) (1)]) rfl rfl (by simp [go_sem, a.e 17 (d 2 rfl), a.e 20 (d 5 rfl), a.e 25 (d 10 rfl).1]) (tr_within_any ((os k).lo) ((os k).hi) _ 1 1 [(elT gs k)] W (ii_block (xs := [(elT gs k)]) (d 10 rfl).2 rfl rfl)),
  fun f s W c d h i j a => opv rfl rfl (by simp [go_sem, a.e 26 (d 11 rfl)]) rfl, trivial⟩ ?_
  intro f6 s6 W6 hB6 g6 hg6 z6
  have fB6 := hB6.f fB5
  obtain ⟨r6_10, br6_10⟩ := hB6.is 10
  have lr6_10 := hB6.lr 10 br6_10
  have k6_10 := kt hg6 10 (kt hg4 10 k3_10)
  have k6_5 := kt hg6 5 k4_5
  have k6_27 := kt hg6 27 (hB6.is 12)
  refine wp_cond_split (t := !(within ((os k).lo) ((os k).hi) [(elT gs k)])) ((fr_eval rfl).trans k6_27) (fun hc10 => ?_) (fun hc10 => ?_)
  ·
   have hc10' := hc10; try simp only [ba] at hc10'
   have hbk_ : obdF os gs k = true := by unfold obdF; exact hc10
   refine rw_ 2 [(28, 0), (4, 1)] [[], [0]] (rel [iI ((k : Int)), iI ((k : Int))])
    ⟨fun f s W c d h i j a => opm (a.v 5 k6_5),
  fun f s W c d h i j a => opm (a.v 28 (d 0 rfl)), trivial⟩ ?_
   intro f7 s7 W7 hB7 g7 hg7 z7
   have fB7 := hB7.f fB6
   have k7_4 := kt hg7 4 (hB7.is 1)
   refine wp_ret ?_
   refine inBlock_ret (then_ret (then_ret (inBlock_ret (then_ret ?_))))
   refine leave_one (N := 30) (.inr rfl) Try.results79 rfl k7_4 ?_
   have e_ : no - k = (no - (k + 1)) + 1 := by omega
   exact ⟨by rw [← lk1, e_, wrF, hbk_, if_pos rfl], fB7⟩
  ·
   have hc10' := hc10; try simp only [ba] at hc10'
   have hbk_ : obdF os gs k = false := by unfold obdF; exact hc10
   refine wp_skip ?_
   refine ibn ?_
   refine hK7 _ _ ?_
   refine ry 2 [(29, 0), (10, 1)] [[], [0]] (rel [iI ((k : Int) + 1), iI ((k : Int) + 1)])
    ⟨fun f s W c d h i j a => opv rfl rfl (by simp [go_sem, a.e 10 ((i 1 10 rfl rfl).trans k6_10), IntWalk.i64_in ((k : Int) + 1) (by omega)]) rfl,
  fun f s W c d h i j a => opm (a.v 29 (d 0 rfl)), trivial⟩ ?_
   intro f8 s8 W8 hB8 g8 hg8 z8
   have fB8 := hB8.f fB6
   have b8_0 := hB8.b (hB6.b b5_0)
   refine wpe ?_
   have k8_1 := kt hg8 1 (kt hg6 1 k4_1)
   have k8_4 := kt hg8 4 (kt hg6 4 (kt hg4 4 (kt hg3 4 k_1_4)))
   have k8_8 := kt hg8 8 (kt hg6 8 (kt hg4 8 k3_8))
   have k8_9 := kt hg8 9 (kt hg6 9 (kt hg4 9 (kt hg3 9 k_1_9)))
   have k8_10 := kt hg8 10 (hB8.is 1)
   refine then_normal ?_
   have e_ : no - k = (no - (k + 1)) + 1 := by omega
   rw [e_, wrF, hbk_, if_neg (by decide)] at lk1
   exact ⟨_, by omega, g8, rfl, k + 1, rfl, k8_1, k8_4, k8_8, k8_9, k8_10.trans (by go_num), fB8, (by omega), b8_0, (by omega), lk1⟩
 ·
  have hc6' := hc6; try simp only [ba] at hc6'
  have hkn : k = no := by omega
  refine wp_exit ?_
  refine then_exit ?_
  refine then_exit ?_
  refine inBlock_at ?_
  refine hK2 _ _ ?_
  refine rw_ 1 [(4, 0)] [[]] (rel [iI (-1)])
   ⟨fun f s W c d h i j a => opz, trivial⟩ ?_
  intro f9 s9 W9 hB9 g9 hg9 z9
  have fB9 := hB9.f fB3
  have k9_4 := kt hg9 4 (hB9.is 0)
  refine wp_ret ?_
  refine leave_one (N := 30) (.inr rfl) Try.results79 rfl k9_4 ?_
  exact ⟨by rw [← lk1, hkn, Nat.sub_self]; rfl, fB9⟩
theorem add_any (ag : Option Addr) (ng cg : Nat) (gs : List Int) (ax : Option Addr) (nx cx : Nat) (xs : List Int) (r : Int) (w : World) (hG : Ii w ag ng cg gs) (hX : Ii w ax nx cx xs) (gn : 1 ≤ ng ∧ ng ≤ 1000) (hnn : nx ≤ ng) (gg : ∀ i, 0 ≤ elT gs i ∧ elT gs i ≤ 1000) (gx : ∀ i, 0 ≤ elT xs i ∧ elT xs i ≤ 4) (gr : 0 ≤ r ∧ r ≤ 30) :
  Calls Try.prog 116 #[.slice ag ng cg, .agg #[.slice ax nx cx, .int .i64 r]] w (fun e w' => ∃ v, e = .returned v ∧ OwI w.heap.size (addK gs xs r nx) ng v w' ∧ Below w.heap.size w w') := by
 obtain ⟨bz, oz, hX_⟩ := hX.open
 have hln : gs.length = ng := hG.1.symm
 refine calls_fr Try.func116 Try.ntmps116 rfl rfl fun g hg => ?_
 have k0 : g 0 = .slice ag ng cg := hg 0
 have k1 : g 1 = .agg #[.slice ax nx cx, .int .i64 r] := hg 1
 clear hg
 have fB0 : Below w.heap.size w w := Below.refl _ _
 refine rw_ 2 [(3, 0), (4, 1)] [[], []] (rel [bx 0 #[.slice ax nx cx, .int .i64 r] 74, is (.slice none 0 0)])
  ⟨fun f s W d j l m n a => opb rfl rfl (by simp [go_sem, a.e 1 k1]),
  fun f s W d j l m n a => opv rfl rfl (by simp [go_sem]) rfl, trivial⟩ ?_
 intro f1 s1 W1 hB1 g1 hg1 z1
 have fB1 := hB1.f fB0
 obtain ⟨r1_0, br1_0⟩ := hB1.is 0
 have lr1_0 := hB1.lr 0 br1_0
 have k1_0 := kt hg1 0 k0
 refine rx 3 [(8, 0), (9, 1), (5, 2)] [[], [0], [1]] (rel [is (.slice ag ng cg), fun v s W => OwI (s 1) (gs) ng v W, fun v s W => OwI (s 1) (gs) ng v W])
  ⟨is_k, ⟨fun v k W W' hb h => h.below hb, fun v s s' W e h => by have h' : OwI (s 1) (gs) ng v W := h; show OwI (s' 1) (gs) ng v W; rw [← e 1 (by simp)]; exact h'⟩, ⟨fun v k W W' hb h => h.below hb, fun v s s' W e h => by have h' : OwI (s 1) (gs) ng v W := h; show OwI (s' 1) (gs) ng v W; rw [← e 1 (by simp)]; exact h'⟩, trivial⟩
  ⟨fun f s W d j l m n a => opm (a.v 0 k1_0),
  fun f s W d j l m n a => by have p := bwt fB1 d; exact opd rfl rfl (by simp [go_sem, a.e 8 (j 0 rfl)]) (clone_own ag ng cg gs W (hG.below p (Nat.le_refl _)) gn) (fun e W' h => by obtain ⟨v, e1, h1, h2⟩ := h; exact ⟨v, e1, h2, (show OwI (upd s 1 W.heap.size 1) (gs) ng v W' from by rw [upd_at]; exact h1)⟩),
  fun f s W d j l m n a => opv (v := (f 1)) rfl rfl (by simp [go_sem, (a.at' 9 rfl : n.tmps[9]?.getD undef = f 1)] <;> rfl) (j 1 rfl), trivial⟩ ?_
 intro f2 s2 W2 hB2 g2 hg2 z2
 have b2_0 := hB2.b br1_0
 obtain ⟨g5', c6', r2_2, q7'⟩ := hB2.is 2
 have la2_2 := hB2.from' 1 (by decide)
 have lo2_2_o := q7'.lim
 have q8' := q7'.low (B' := w.heap.size) (Nat.le_trans fB1.size (la2_2))
 have k2_3 := kt hg2 3 (kt hg1 3 r1_0)
 refine wp_seq_k fun K3 hK3 => ?_
 refine rw_ 4 [(10, 0), (11, 1), (12, 2), (13, 3)] [[], [0], [1], []] (rel [is (.pointer (some ⟨(s1 0), 0, none⟩)), is (.slice ax nx cx), iI ((nx : Int)), iI 0])
  ⟨fun f s W d j l m n a => opv rfl rfl (by simp [go_sem, a.e 3 k2_3]) rfl,
  fun f s W d j l m n a => opv rfl rfl (by simp [go_sem, a.e 10 (j 0 rfl), cb b2_0 d 0]) rfl,
  fun f s W d j l m n a => opv rfl rfl (by simp [go_sem, a.e 11 (j 1 rfl)]) rfl,
  fun f s W d j l m n a => opz, trivial⟩ ?_
 intro f3 s3 W3 hB3 g3 hg3 z3
 have fB3 := hB3.f (hB2.f fB1)
 have b3_0 := hB3.b b2_0
 have q9' := (q8'.below hB3.below)
 have k3_3 := kt hg3 3 k2_3
 have k3_4 := kt hg3 4 (kt hg2 4 (kt hg1 4 (hB1.is 1)))
 have k3_5 := kt hg3 5 (kt hg2 5 r2_2)
 have k3_11 := kt hg3 11 (hB3.is 1)
 have k3_12 := kt hg3 12 (hB3.is 2)
 have k3_13 := kt hg3 13 (hB3.is 3)
 refine wp_block ?_
 refine wp_loop_n (fun m_ a_ W_ => ∃ g_ : Nat → Value, a_ = fr 30 g_ ∧ (∃ k : Nat, m_ = nx - k ∧ g_ 3 = .pointer (some ⟨(s1 0), 0, none⟩) ∧ g_ 4 = .slice none 0 0 ∧ g_ 5 = .slice (some ⟨g5', 0, none⟩) ng c6' ∧ g_ 11 = .slice ax nx cx ∧ g_ 12 = .int .i64 ((nx : Int)) ∧ g_ 13 = .int .i64 ((k : Int)) ∧ Below w.heap.size w W_ ∧ W3.heap.size ≤ W_.heap.size ∧ W_.heap[(s1 0)]? = some (.cells #[.slice ax nx cx, .int .i64 r] 74 (0, 0)) ∧ OwnI w.heap.size (addK gs xs r k) g5' c6' W_ ∧ (k ≤ nx))) ⟨_, g3, rfl, 0, rfl, k3_3, k3_4, k3_5, k3_11, k3_12, k3_13.trans (by rfl), fB3, Nat.le_refl _, b3_0, q9', (by omega)⟩ ?_
 rintro _ _ W_10 ⟨g_10, rfl, k, rfl, k_10_3, k_10_4, k_10_5, k_10_11, k_10_12, k_10_13, fB_10, z_10, b_10_0, q11', lk0⟩
 have hb_ := addK_at gs xs r k k (by omega)
 have hg_ := gg k
 have hx_ := gx k
 rw [if_neg (Nat.lt_irrefl k)] at hb_
 have hm_ := tr_mul hx_ (show 0 ≤ r ∧ r ≤ 30 by omega)
 refine rw_ 1 [(14, 0)] [[]] (rel [iB (decide ((k : Int) < (nx : Int)))])
  ⟨fun f s W d j l m n a => opv rfl rfl (by simp [go_sem, a.e 13 k_10_13, a.e 12 k_10_12]) rfl, trivial⟩ ?_
 intro f4 s4 W4 hB4 g4 hg4 z4
 have fB4 := hB4.f fB_10
 have q12' := (q11'.below hB4.below)
 have k4_5 := kt hg4 5 k_10_5
 have k4_11 := kt hg4 11 k_10_11
 have k4_13 := kt hg4 13 k_10_13
 have k4_14 := kt hg4 14 (hB4.is 0)
 refine wp_seq_k fun K6 hK6 => ?_
 refine wp_cond_split (t := decide ((k : Int) < (nx : Int))) ((fr_eval rfl).trans k4_14) (fun hc7 => ?_) (fun hc7 => ?_)
 ·
  have hc7' := hc7; try simp only [ba] at hc7'
  have hkn : k < nx := by omega
  refine wp_skip ?_
  refine hK6 _ _ ?_
  refine wp_seq_k fun K8 hK8 => ?_
  refine wp_block ?_
  refine rw_ 5 [(15, 0), (16, 1), (17, 2), (6, 3), (7, 4)] [[], [], [1], [0], [2]] (rel [iI ((k : Int)), is (.pointer (some ⟨bz, oz + k, none⟩)), iI ((elT xs k)), iI ((k : Int)), iI ((elT xs k))])
   ⟨fun f s W d j l m n a => opm (a.v 13 k4_13),
  fun f s W d j l m n a => by have hab := (hX_ (by omega)).1; have li_ := Nat.not_le.2 (show k < nx by omega); have li2_ : (k : Int) < (nx : Int) := (by omega); exact opv rfl rfl (by simp [go_sem, a.e 11 k4_11, a.e 13 k4_13, hab, li_, li2_]) rfl,
  fun f s W d j l m n a => by have p := bwt fB4 d; have cu_ := (hX_ (by omega)).2 W p k (by omega); exact opv rfl rfl (by simp [go_sem, a.e 16 (j 1 rfl), cu_]) rfl,
  fun f s W d j l m n a => opm (a.v 15 (j 0 rfl)),
  fun f s W d j l m n a => opm (a.v 17 (j 2 rfl)), trivial⟩ ?_
  intro f5 s5 W5 hB5 g5 hg5 z5
  have b5_0 := hB5.b (hB4.b b_10_0)
  have q13' := (q12'.below hB5.below)
  have k5_3 := kt hg5 3 (kt hg4 3 k_10_3)
  have k5_5 := kt hg5 5 k4_5
  have k5_6 := kt hg5 6 (hB5.is 3)
  have k5_7 := kt hg5 7 (hB5.is 4)
  refine ry 10 [(18, 0), (19, 1), (20, 2), (21, 3), (22, 4), (23, 5), (24, 6), (25, 7), (26, 8), (27, 9)] [[], [], [0, 1], [2], [], [], [5], [4, 6], [3, 7], [0, 1], [0, 1, 2, 3, 4, 5, 6, 7, 8, 9]] (rel [is (.slice (some ⟨g5', 0, none⟩) ng c6'), iI ((k : Int)), is (.pointer (some ⟨g5', k, none⟩)), iI ((elT (addK gs xs r k) k)), iI ((elT xs k)), is (.pointer (some ⟨(s1 0), 1, none⟩)), iI r, iI ((elT xs k) * r), iI ((elT (addK gs xs r k) k) + ((elT xs k) * r)), is (.pointer (some ⟨g5', k, none⟩))])
   ⟨fun f s W d j l m n a => opm (a.v 5 k5_5),
  fun f s W d j l m n a => opm (a.v 6 k5_6),
  fun f s W d j l m n a => by have li_ := Nat.not_le.2 (show k < ng by omega); have li2_ : (k : Int) < (ng : Int) := (by omega); exact opv rfl rfl (by simp [go_sem, a.e 18 (j 0 rfl), a.e 19 (j 1 rfl), li_, li2_]) rfl,
  fun f s W d j l m n a => by have u3_ : W.cell? ⟨g5', k, none⟩ = some (.int .i64 ((elT (addK gs xs r k) k))) := (OwnI.cell ((q13'.below d)) (i := k) (by rw [addK_len]; omega)); exact opv rfl rfl (by simp [go_sem, a.e 20 (j 2 rfl), u3_]) rfl,
  fun f s W d j l m n a => opm (a.v 7 k5_7),
  fun f s W d j l m n a => opv rfl rfl (by simp [go_sem, a.e 3 k5_3]) rfl,
  fun f s W d j l m n a => opv rfl rfl (by simp [go_sem, a.e 23 (j 5 rfl), cb b5_0 d 1]) rfl,
  fun f s W d j l m n a => opv rfl rfl (by simp [go_sem, a.e 22 (j 4 rfl), a.e 24 (j 6 rfl), IntWalk.i64_in ((elT xs k) * r) (by omega)]) rfl,
  fun f s W d j l m n a => opv rfl rfl (by simp [go_sem, a.e 21 (j 3 rfl), a.e 25 (j 7 rfl), IntWalk.i64_in ((elT (addK gs xs r k) k) + ((elT xs k) * r)) (by omega)]) rfl,
  fun f s W d j l m n a => by have li_ := Nat.not_le.2 (show k < ng by omega); have li2_ : (k : Int) < (ng : Int) := (by omega); exact opv rfl rfl (by simp [go_sem, a.e 18 (j 0 rfl), a.e 19 (j 1 rfl), li_, li2_]) rfl, trivial⟩ ?_
  intro f6 s6 W6 hB6 g6 hg6 z6
  have fB6 := hB6.f (hB5.f fB4)
  have b6_0 := hB6.b b5_0
  have q14' := (q13'.below hB6.below)
  have k6_13 := kt hg6 13 (kt hg5 13 k4_13)
  have k6_26 := kt hg6 26 (hB6.is 8)
  have k6_27 := kt hg6 27 (hB6.is 9)
  obtain ⟨W7, st7, ow7, ot7, z7, fB7⟩ := storeI_tail (c := c6') (i := k) (x := (elT (addK gs xs r k) k) + ((elT xs k) * r)) ((addK gs xs r k).set k ((elT (addK gs xs r k) k) + ((elT xs k) * r))) (by rw [addK_len]; omega) rfl fB6 q14'
  refine tsk (o := _) rfl ⟨rfl, rfl⟩ (st7 (fr_ev k6_27) (fr_ev k6_26)) ?_
  have b7_0 := ot7 _ _ (by omega) b6_0
  refine wpe ?_
  refine ibn ?_
  refine hK8 _ _ ?_
  refine ry 2 [(28, 0), (13, 1)] [[], [0]] (rel [iI ((k : Int) + 1), iI ((k : Int) + 1)])
   ⟨fun f s W d j l m n a => opv rfl rfl (by simp [go_sem, a.e 13 ((m 1 13 rfl rfl).trans k6_13), IntWalk.i64_in ((k : Int) + 1) (by omega)]) rfl,
  fun f s W d j l m n a => opm (a.v 28 (j 0 rfl)), trivial⟩ ?_
  intro f8 s8 W8 hB8 g8 hg8 z8
  have fB8 := hB8.f fB7
  have b8_0 := hB8.b b7_0
  have q15' := (ow7.below hB8.below)
  refine wpe ?_
  have k8_3 := kt hg8 3 (kt hg6 3 k5_3)
  have k8_4 := kt hg8 4 (kt hg6 4 (kt hg5 4 (kt hg4 4 k_10_4)))
  have k8_5 := kt hg8 5 (kt hg6 5 k5_5)
  have k8_11 := kt hg8 11 (kt hg6 11 (kt hg5 11 k4_11))
  have k8_12 := kt hg8 12 (kt hg6 12 (kt hg5 12 (kt hg4 12 k_10_12)))
  have k8_13 := kt hg8 13 (hB8.is 1)
  refine then_normal ?_
  exact ⟨_, by omega, g8, rfl, k + 1, rfl, k8_3, k8_4, k8_5, k8_11, k8_12, k8_13.trans (by go_num), fB8, (by omega), b8_0, q15', (by omega)⟩
 ·
  have hc7' := hc7; try simp only [ba] at hc7'
  have hkn : k = nx := by omega
  refine wp_exit ?_
  refine then_exit ?_
  refine then_exit ?_
  refine inBlock_at ?_
  refine hK3 _ _ ?_
  refine rw_ 2 [(29, 0), (4, 1)] [[], [0]] (rel [is (.slice (some ⟨g5', 0, none⟩) ng c6'), is (.slice (some ⟨g5', 0, none⟩) ng c6')])
   ⟨fun f s W d j l m n a => opm (a.v 5 k4_5),
  fun f s W d j l m n a => opm (a.v 29 (j 0 rfl)), trivial⟩ ?_
  intro f9 s9 W9 hB9 g9 hg9 z9
  have fB9 := hB9.f fB4
  have q16' := (q12'.below hB9.below)
  have k9_4 := kt hg9 4 (hB9.is 1)
  refine wp_ret ?_
  refine leave_one (N := 30) (.inr rfl) Try.results116 rfl k9_4 ?_
  have e_ : k = nx := by omega
  subst e_
  exact ⟨_, rfl, ⟨_, _, rfl, q16'⟩, fB9⟩
end Go.Proofs.Ytcgccflcjejlhaa
