/- Part of the proof: what the claim leans on. -/
import Derived.Test.YtcgccflcjejlhaaDAU
set_option linter.unusedSimpArgs false
set_option linter.unusedVariables false
namespace Go.Proofs.Ytcgccflcjejlhaa
open Go.RowKit
def IsOd (xs : List Int) (v : Value) (W : World) : Prop := ∃ g c, v = .slice (some ⟨g, 0, none⟩) 4 c ∧ Ii W (some ⟨g, 0, none⟩) 4 c xs
theorem IsOd.below {xs : List Int} {v : Value} {W W' : World} (h : IsOd xs v W) (hb : Below W.heap.size W W') : IsOd xs v W' := by
  obtain ⟨g, c, e, h⟩ := h; exact ⟨g, c, e, h.below hb (Nat.le_refl _)⟩
def chBa (g7 g8 : Nat) (k : Nat) : Option Addr := if k = 0 then some ⟨g7, 0, none⟩ else some ⟨g8, 0, none⟩
theorem chB_R {W : World} {b9 g7 g8 : Nat} {chv : Nat → Int} {T1 T2 T3 : TypeId} (hc : W.heap[b9]? = some (.cells #[.slice (some ⟨g7, 0, none⟩) 2 2, .slice (some ⟨g8, 0, none⟩) 2 2] T1 (0, 0))) (h7 : W.heap[g7]? = some (.cells #[.int .i64 0, .int .i64 (chv 0)] T2 (0, 0))) (h8 : W.heap[g8]? = some (.cells #[.int .i64 (chv 1), .int .i64 0] T3 (0, 0))) : ChR W b9 0 (chB chv) (chBa g7 g8) (fun _ => 2) :=
  ⟨lt_of_blk hc, fun i hi => by
    match i, hi with
    | 0, _ => exact ⟨(Joins.cell_of_block hc 0).trans rfl, fl_ii2 h7⟩
    | 1, _ => exact ⟨(Joins.cell_of_block hc 1).trans rfl, fl_ii2 h8⟩⟩
theorem da_at2 {W : World} {g c : Nat} {xs : List Int} (h : Ii W (some ⟨g, 0, none⟩) 3 c xs) : W.cell? ⟨g, 2, none⟩ = some (.int .i64 (elT xs 2)) := by
  obtain ⟨b, o', h1⟩ := h.open
  obtain ⟨e, h2⟩ := h1 (by decide)
  cases e
  have := h2 W (Below.refl _ _) 2 (by decide)
  rwa [Nat.zero_add] at this
def adN (g0 g1 g2 g3 : Nat) (i : Nat) : Nat := if i = 0 then g0 else if i = 1 then g1 else if i = 2 then g2 else g3
/-- One stay. -/
def dsW (n : Int) (_ : Nat) : Ds := ⟨200, 220, n⟩
theorem dsR1 {W : World} {b : Nat} {n : Int} {T : TypeId} (h : W.heap[b]? = some (.cells #[.int .i64 200, .int .i64 220, .int .i64 n] T (0, 0))) : DsR W b 0 1 (dsW n) :=
  ⟨lt_of_blk h, fun i hi => by
    match i, hi with
    | 0, _ => exact ⟨Joins.cell_of_block h 0, Joins.cell_of_block h 1, Joins.cell_of_block h 2⟩⟩
def IsW (m : Int × Int) (v : Value) (W : World) : Prop := ∃ b c, v = .slice (some ⟨b, 0, none⟩) 1 c ∧ SpR W b 0 1 (fun _ => m)
theorem IsW.below {m : Int × Int} {v : Value} {W W' : World} (h : IsW m v W) (hb : Below W.heap.size W W') : IsW m v W' := by
  obtain ⟨b, c, e, h⟩ := h; exact ⟨b, c, e, h.below hb⟩
theorem after_one (up n : Int) (m : Int × Int) (b c : Nat) (T : TypeId) (w : World) (hb : w.heap[b]? = some (.cells #[.int .i64 200, .int .i64 220, .int .i64 n] T (0, 0))) (hn : 0 ≤ n ∧ n ≤ 500) (hu : 0 ≤ up ∧ up ≤ 50) (hm : moF up 3 50 60 (dsW n) 1 = m) :
    Calls Try.prog 8 #[.agg #[.int .i64 up, .int .i64 3], .agg #[.int .i64 50, .int .i64 60], .slice (some ⟨b, 0, none⟩) 1 c] w (fun e w' => ∃ v, e = .returned (.tuple #[v, .int .i64 0]) ∧ IsW m v w' ∧ Below w.heap.size w w') := by
  refine (damp_After up 3 50 60 (dsW n) b 0 1 c w (dsR1 hb) (fun i _ => ⟨by show 0 ≤ (200 : Int) ∧ (200 : Int) ≤ 220 ∧ (220 : Int) ≤ 300; decide, hn⟩) (by decide) (by decide) hu (by decide) ⟨by decide⟩).mono ?_
  rintro e w' ⟨v, e1, ⟨b', c', e2, h, -⟩, h2⟩
  refine ⟨v, e1, ⟨b', c', e2, h.1, fun i hi => ?_⟩, h2⟩
  have h3 := h.2 i hi
  have e4 : i = 0 := by omega
  subst e4
  rw [← hm]; exact h3
set_option maxRecDepth 100000 in
set_option maxHeartbeats 40000000 in
theorem damp_main_c16 (jv chv sv : Nat → Int) (sx : Nat → Nat → Int) (mo : Nat → Nat → Int × Int) (w : World) (gj : ∀ k, 0 ≤ jv k ∧ jv k ≤ 255) (gg : ∀ k, 0 ≤ chv k ∧ chv k ≤ 255) (gs : ∀ k, 0 ≤ sv k ∧ sv k ≤ 255) (hsx : ∀ n k : Nat, elT ((runF (freeK n (stB sv)) (chK (chB chv)) 3 (jsB jv) (odB (chv 2)) 4).st k) 2 = sx n k) (hsl : ∀ k, k < 4 → 0 ≤ sx 0 k ∧ sx 0 k ≤ sx 1 k ∧ sx 1 k ≤ 29745) (hmo : ∀ n k : Nat, moF (1 + chv 3 % 5) 3 50 60 (dsW ((sx n k + jv (k * 5 + 4)) / 60)) 1 = mo n k) (hml : ∀ k, k < 4 → (mo 0 k).1 ≤ (mo 1 k).1 ∧ (mo 0 k).2 ≤ (mo 1 k).2 ∧ 50 ≤ (mo 0 k).1) (gc_ : Nat → Value) (Wc_ : World) (bk1 : Nat) (bk4 : Nat) (b85' : Nat) (b104' : Nat) (bk9 : Nat) (bk10 : Nat) (bk11 : Nat) (bk6 : Nat) (ga42 : Nat) (sa86' : Nat → Nat) (sc87' : Nat → Nat) (sa105' : Nat → Nat) (sc106' : Nat → Nat) (ca42 : Nat)  (k_4 : gc_ 4 = .pointer (some ⟨bk1, 0, none⟩)) (k_6 : gc_ 6 = .bool false) (k_8 : gc_ 8 = .pointer (some ⟨bk4, 0, none⟩)) (k_14 : gc_ 14 = .slice (some ⟨b85', 0, none⟩) (4) (4)) (k_16 : gc_ 16 = .slice (some ⟨b104', 0, none⟩) (4) (4)) (fB_ : Below w.heap.size w Wc_) (bl_0 : Wc_.heap[bk1]? = some (.cells #[.int .u8 ((chv 0)), .int .u8 ((chv 1)), .int .u8 ((chv 2)), .int .u8 ((chv 3))] 24 (0, 0))) (bl_1 : Wc_.heap[bk4]? = some (.cells #[.slice (some ⟨ga42, 0, none⟩) (4) (ca42)] 30 (0, 0))) (ft_0 : JbR Wc_ ga42 0 4 (jsB jv) (adB bk9 bk10 bk11 bk6) (fun _ => 3)) (ft_1 : StL 3 4 (runF (freeK 0 (stB sv)) (chK (chB chv)) 3 (jsB jv) (odB (chv 2)) 4).st b85' sa86' sc87' Wc_) (ft_2 : StL 3 4 (runF (freeK 1 (stB sv)) (chK (chB chv)) 3 (jsB jv) (odB (chv 2)) 4).st b104' sa105' sc106' Wc_) (lw_bk1 : w.heap.size ≤ bk1) (lw_bk4 : w.heap.size ≤ bk4) (ne_0_1 : bk1 ≠ bk4) :
  (tailC 10 (bodyC Try.f3)).wp Try.prog (bodyPost Try.prog Try.f3 (fun e w' => e = .returned (.bool true) ∧ Below w.heap.size w w')) (fr 256 gc_) Wc_ := by
 have j0_ := gj 0
 have j1_ := gj 1
 have j2_ := gj 2
 have j3_ := gj 3
 have j4_ := gj 4
 have j5_ := gj 5
 have j6_ := gj 6
 have j7_ := gj 7
 have j8_ := gj 8
 have j9_ := gj 9
 have j10_ := gj 10
 have j11_ := gj 11
 have j12_ := gj 12
 have j13_ := gj 13
 have j14_ := gj 14
 have j15_ := gj 15
 have j16_ := gj 16
 have j17_ := gj 17
 have j18_ := gj 18
 have j19_ := gj 19
 have v0_ := gg 0
 have v1_ := gg 1
 have v2_ := gg 2
 have v3_ := gg 3
 have s0_ := gs 0
 have s1_ := gs 1
 have s2_ := gs 2
 have lt_bk1 := lt_of_blk bl_0
 have lt_bk4 := lt_of_blk bl_1
 have fA57 : Below Wc_.heap.size Wc_ Wc_ := Below.refl _ _
 refine wp_seq_k fun K41 hK41 => ?_
 refine region_dk 7 [(135, 0), (136, 1), (137, 2), (138, 3), (139, 4), (140, 5), (18, 6)] [[], [0], [0, 1], [0, 1, 2], [0, 1, 2, 3], [0, 1, 2, 3, 4], [], [0, 1, 2, 3, 4, 5, 6]] (rel [is (.pointer (some ⟨bk1, 3, none⟩)),
   is (.int .u8 ((chv 3))),
   is (.int .i64 ((chv 3))),
   is (.int .i64 (((chv 3) % 5))),
   is (.int .i64 (1 + ((chv 3) % 5))),
   is (.agg #[.int .i64 (1 + ((chv 3) % 5)), .int .i64 3]),
   bx 6 #[.int .i64 0, .int .i64 0] 41])
  ⟨is_k, is_k, is_k, is_k, is_k, is_k, bx_k, trivial⟩
  ⟨fun f s W g i j l m a => opv rfl rfl (by simp [go_sem, a.e 4 k_4]) rfl,
  fun f s W g i j l m a => by have aW := below_trans fA57 g; exact opv rfl rfl (by simp [go_sem, a.e 135 (i 0 rfl), cb bl_0 aW 3]) rfl,
  fun f s W g i j l m a => by have cv_ := IntWalk.i64_in (chv 3) (by omega); exact opv rfl rfl (by simp [go_sem, a.e 136 (i 1 rfl), cv_]) rfl,
  fun f s W g i j l m a => by have qu_ : ((chv 3)).tmod 5 = ((chv 3) % 5) := Int.tmod_eq_emod_of_nonneg (by omega); have qw_ := IntWalk.i64_in ((chv 3) % 5) (by omega); exact opv rfl rfl (by simp [go_sem, a.e 137 (i 2 rfl), qu_, qw_]) rfl,
  fun f s W g i j l m a => opv rfl rfl (by simp [go_sem, a.e 138 (i 3 rfl), IntWalk.i64_in (1 + ((chv 3) % 5)) (by omega)]) rfl,
  fun f s W g i j l m a => opv rfl rfl (by simp [go_sem, a.e 139 (i 4 rfl)]) rfl,
  fun f s W g i j l m a => opb rfl rfl (by simp [go_sem]), trivial⟩ ?_
 intro f58 s58 W58 hB58 g58 hg58
 have fB58 := hB58.f fB_
 have z58 := hB58.below.size
 have fA58 := hB58.f fA57
 obtain ⟨r58_6, br58_6⟩ := hB58.is 6
 have lr58_6 := hB58.lr 6 br58_6
 have k58_6 := kt hg58 6 k_6
 have k58_8 := kt hg58 8 k_8
 have k58_14 := kt hg58 14 k_14
 have k58_16 := kt hg58 16 k_16
 have k58_140 := kt hg58 140 (hB58.is 5)
 have k58_18 := kt hg58 18 r58_6
 obtain ⟨W59, hW59⟩ : ∃ W', W' = W58.setRow (s58 6) #[.int .i64 (1 + ((chv 3) % 5)), .int .i64 3] := ⟨_, rfl⟩
 refine tail_skip (o := _) rfl ⟨rfl, rfl⟩ (run_seg hW59 (fr_ev k58_18) (fr_ev k58_140) br58_6 rfl rfl rfl rfl) ?_
 obtain ⟨fB59, nb59, ot59, z59⟩ := seg_facts hW59 fB58 br58_6 (by omega)
 have fA59 := (seg_facts hW59 fA58 br58_6 (by omega)).1
 clear hW59
 refine wpOps_end ?_
 refine hK41 _ _ ?_
 refine wp_seq_k fun K42 hK42 => ?_
 refine wp_seq_k fun K43 hK43 => ?_
 refine region_dk 1 [(19, 0)] [[]] (rel [is (.int .i64 0)])
  ⟨is_k, trivial⟩
  ⟨fun f s W g i j l m a => opv rfl rfl (by simp [go_sem]) rfl, trivial⟩ ?_
 intro f60 s60 W60 hB60 g60 hg60
 have fB60 := hB60.f fB59
 have z60 := hB60.below.size
 have fA60 := hB60.f fA59
 have b60_2 := hB60.b nb59
 refine hK43 _ _ ?_
 have k60_6 := kt hg60 6 k58_6
 have k60_8 := kt hg60 8 k58_8
 have k60_14 := kt hg60 14 k58_14
 have k60_16 := kt hg60 16 k58_16
 have k60_18 := kt hg60 18 k58_18
 have k60_19 := kt hg60 19 (hB60.is 0)
 refine wp_block ?_
 refine wp_loop_n (fun m_ a_ W_ => ∃ g_ : Nat → Value, a_ = fr 256 g_ ∧ (∃ k : Nat, m_ = 4 - k ∧ g_ 6 = .bool false ∧ g_ 8 = .pointer (some ⟨bk4, 0, none⟩) ∧ g_ 14 = .slice (some ⟨b85', 0, none⟩) (4) (4) ∧ g_ 16 = .slice (some ⟨b104', 0, none⟩) (4) (4) ∧ g_ 18 = .pointer (some ⟨(s58 6), 0, none⟩) ∧ g_ 19 = .int .i64 ((k : Int)) ∧ Below w.heap.size w W_ ∧ W60.heap.size ≤ W_.heap.size ∧ Below Wc_.heap.size Wc_ W_ ∧ W_.heap[(s58 6)]? = some (.cells #[.int .i64 (1 + ((chv 3) % 5)), .int .i64 3] 41 (0, 0)) ∧ (k ≤ 4))) ⟨_, g60, rfl, 0, rfl, k60_6, k60_8, k60_14, k60_16, k60_18, k60_19.trans (by rfl), fB60, Nat.le_refl _, fA60, b60_2, (by omega)⟩ ?_
 rintro _ _ W_111 ⟨g_111, rfl, k, rfl, k_111_6, k_111_8, k_111_14, k_111_16, k_111_18, k_111_19, fB_111, z_111, fA_111, b_111_0, lk0⟩
 refine wp_seq_k fun K44 hK44 => ?_
 refine wp_seq_k fun K45 hK45 => ?_
 refine region_dk 2 [(141, 0), (142, 1)] [[], [0]] (rel [is (.int .i64 ((k : Int))),
   is (.bool (decide ((k : Int) < 4)))])
  ⟨is_k, is_k, trivial⟩
  ⟨fun f s W g i j l m a => opv rfl rfl (by simp [go_sem, a.e 19 k_111_19]) rfl,
  fun f s W g i j l m a => opv rfl rfl (by simp [go_sem, a.e 141 (i 0 rfl)]) rfl, trivial⟩ ?_
 intro f61 s61 W61 hB61 g61 hg61
 have fB61 := hB61.f fB_111
 have z61 := hB61.below.size
 have fA61 := hB61.f fA_111
 have b61_2 := hB61.b b_111_0
 refine hK45 _ _ ?_
 have k61_6 := kt hg61 6 k_111_6
 have k61_8 := kt hg61 8 k_111_8
 have k61_14 := kt hg61 14 k_111_14
 have k61_16 := kt hg61 16 k_111_16
 have k61_18 := kt hg61 18 k_111_18
 have k61_19 := kt hg61 19 k_111_19
 have k61_142 := kt hg61 142 (hB61.is 1)
 refine wp_cond_split (t := decide ((k : Int) < 4)) ((fr_eval rfl).trans k61_142) (fun hc46 => ?_) (fun hc46 => ?_)
 ·
  have hc46' := hc46; try simp only [ba] at hc46'
  have hkn : k < 4 := by omega
  have hs_ := hsl k hkn
  have hj_ := gj (k * 5 + 4)
  have hml_ := hml k hkn
  have gg3_ := gg 3
  refine wp_skip ?_
  refine hK44 _ _ ?_
  refine wp_seq_k fun K47 hK47 => ?_
  refine wp_block ?_
  refine wp_seq_k fun K48 hK48 => ?_
  refine wp_seq_k fun K49 hK49 => ?_
  refine region_dk 14 [(145, 0), (146, 1), (147, 2), (148, 3), (149, 4), (150, 5), (151, 6), (152, 7), (153, 8), (154, 9), (155, 10), (156, 11), (157, 12), (158, 13)] [[], [], [0, 1], [0, 1, 2], [0, 1, 2, 3], [0, 1, 2, 3, 4], [0, 1, 2, 3, 4, 5], [0, 1, 2, 3, 4, 5, 6], [0, 1, 2, 3, 4, 5, 6], [0, 1, 2, 3, 4, 5, 6, 7, 8], [0, 1, 2, 3, 4, 5, 6, 7, 8, 9], [0, 1, 2, 3, 4, 5, 6, 7, 8, 9, 10], [0, 1, 2, 3, 4, 5, 6, 7, 8, 9, 10, 11], [0, 1, 2, 3, 4, 5, 6, 7, 8, 9, 10, 11, 12]] (rel [is (.slice (some ⟨b85', 0, none⟩) (4) (4)),
   is (.int .i64 ((k : Int))),
   is (.pointer (some ⟨b85', 0 + k * 1, none⟩)),
   is (.slice (some ⟨(sa86' k), 0, none⟩) (3) ((sc87' k))),
   is (.int .i64 3),
   is (.bool false),
   is (.bool false),
   is (.slice (some ⟨b104', 0, none⟩) (4) (4)),
   is (.int .i64 ((k : Int))),
   is (.pointer (some ⟨b104', 0 + k * 1, none⟩)),
   is (.slice (some ⟨(sa105' k), 0, none⟩) (3) ((sc106' k))),
   is (.int .i64 3),
   is (.bool false),
   is (.bool false)])
   ⟨is_k, is_k, is_k, is_k, is_k, is_k, is_k, is_k, is_k, is_k, is_k, is_k, is_k, is_k, trivial⟩
   ⟨fun f s W g i j l m a => opv rfl rfl (by simp [go_sem, a.e 14 k61_14]) rfl,
  fun f s W g i j l m a => opv rfl rfl (by simp [go_sem, a.e 19 k61_19]) rfl,
  fun f s W g i j l m a => by have li_ := Nat.not_le.2 (show k < 4 by omega); have li2_ : (k : Int) < 4 := (by omega); have li3_ : (0 : Int) ≤ (k : Int) := (by omega); exact opv rfl rfl (by simp [go_sem, a.e 145 (i 0 rfl), a.e 146 (i 1 rfl), li_, li2_, li3_]) rfl,
  fun f s W g i j l m a => by have aW := below_trans fA61 g; have cu_ := (((StL.below ft_1 aW)).2 k (by omega)).1; exact opv rfl rfl (by simp [go_sem, a.e 147 (i 2 rfl), cu_]) rfl,
  fun f s W g i j l m a => opv rfl rfl (by simp [go_sem, a.e 148 (i 3 rfl)]) rfl,
  fun f s W g i j l m a => opv rfl rfl (by simp [go_sem, a.e 149 (i 4 rfl)]) rfl,
  fun f s W g i j l m a => opv rfl rfl (by simp [go_sem, a.e 150 (i 5 rfl)]) rfl,
  fun f s W g i j l m a => osure rfl rfl (a.says (d := 151) rfl rfl (i 6 rfl)) (gv (by simp [go_sem, a.e 16 k61_16]) rfl),
  fun f s W g i j l m a => osure rfl rfl (a.says (d := 151) rfl rfl (i 6 rfl)) (gv (by simp [go_sem, a.e 19 k61_19]) rfl),
  fun f s W g i j l m a => osure rfl rfl (a.says (d := 151) rfl rfl (i 6 rfl)) (by have li_ := Nat.not_le.2 (show k < 4 by omega); have li2_ : (k : Int) < 4 := (by omega); have li3_ : (0 : Int) ≤ (k : Int) := (by omega); exact gv (by simp [go_sem, a.e 152 (i 7 rfl), a.e 153 (i 8 rfl), li_, li2_, li3_]) rfl),
  fun f s W g i j l m a => osure rfl rfl (a.says (d := 151) rfl rfl (i 6 rfl)) (by have aW := below_trans fA61 g; have cu_ := (((StL.below ft_2 aW)).2 k (by omega)).1; exact gv (by simp [go_sem, a.e 154 (i 9 rfl), cu_]) rfl),
  fun f s W g i j l m a => osure rfl rfl (a.says (d := 151) rfl rfl (i 6 rfl)) (gv (by simp [go_sem, a.e 155 (i 10 rfl)]) rfl),
  fun f s W g i j l m a => osure rfl rfl (a.says (d := 151) rfl rfl (i 6 rfl)) (gv (by simp [go_sem, a.e 156 (i 11 rfl)]) rfl),
  fun f s W g i j l m a => opk (c := false) rfl rfl (fun _ => by simp [go_sem, a.e 151 (i 6 rfl), a.e 157 (i 12 rfl)]) (fun h => absurd h (by decide)), trivial⟩ ?_
  intro f62 s62 W62 hB62 g62 hg62
  have fB62 := hB62.f fB61
  have z62 := hB62.below.size
  have fA62 := hB62.f fA61
  have b62_2 := hB62.b b61_2
  refine hK49 _ _ ?_
  have k62_6 := kt hg62 6 k61_6
  have k62_8 := kt hg62 8 k61_8
  have k62_14 := kt hg62 14 k61_14
  have k62_16 := kt hg62 16 k61_16
  have k62_18 := kt hg62 18 k61_18
  have k62_19 := kt hg62 19 k61_19
  have k62_158 := kt hg62 158 (hB62.is 13)
  refine wp_cond_false ((fr_eval rfl).trans k62_158) ?_
  refine wp_skip ?_
  refine hK48 _ _ ?_
  refine wp_seq_k fun K51 hK51 => ?_
  refine region_dk 30 [(159, 0), (160, 1), (161, 2), (162, 3), (163, 4), (164, 5), (165, 6), (166, 7), (167, 8), (168, 9), (169, 10), (170, 11), (171, 12), (172, 13), (173, 14), (174, 15), (175, 16), (176, 17), (177, 18), (178, 19), (179, 20), (180, 21), (181, 22), (182, 23), (183, 24), (184, 25), (185, 26), (186, 27), (20, 28), (21, 29)] [[], [], [0, 1], [0, 1, 2], [0, 1, 2, 3], [0, 1, 2, 3, 4], [], [], [6, 7], [6, 7, 8], [6, 7, 8, 9], [6, 7, 8, 9, 10], [6, 7, 8, 9, 10, 11], [0, 1, 2, 3, 4, 5, 6, 7, 8, 9, 10, 11, 12], [], [], [14, 15], [14, 15, 16], [14, 15, 16, 17], [14, 15, 16, 17, 18], [], [], [20, 21], [20, 21, 22], [20, 21, 22, 23], [20, 21, 22, 23, 24], [20, 21, 22, 23, 24, 25], [14, 15, 16, 17, 18, 19, 20, 21, 22, 23, 24, 25, 26], [0, 1, 2, 3, 4, 5, 6, 7, 8, 9, 10, 11, 12, 13], [0, 1, 2, 3, 4, 5, 6, 7, 8, 9, 10, 11, 12, 13, 14, 15, 16, 17, 18, 19, 20, 21, 22, 23, 24, 25, 26, 27, 28]] (rel [is (.slice (some ⟨b85', 0, none⟩) (4) (4)),
   is (.int .i64 ((k : Int))),
   is (.pointer (some ⟨b85', 0 + k * 1, none⟩)),
   is (.slice (some ⟨(sa86' k), 0, none⟩) (3) ((sc87' k))),
   is (.pointer (some ⟨(sa86' k), 2, none⟩)),
   is (.int .i64 (sx 0 k)),
   is (.slice (some ⟨ga42, 0, none⟩) (4) (ca42)),
   is (.int .i64 ((k : Int))),
   is (.pointer (some ⟨ga42, 0 + k * 4, none⟩)),
   is (.pointer (some ⟨ga42, 0 + k * 4 + 3, none⟩)),
   is (.slice (some ⟨((adN bk9 bk10 bk11 bk6) k), 0, none⟩) (3) (3)),
   is (.pointer (some ⟨((adN bk9 bk10 bk11 bk6) k), 2, none⟩)),
   is (.int .i64 (jv (k * 5 + 4))),
   is (.int .i64 ((sx 0 k) + (jv (k * 5 + 4)))),
   is (.slice (some ⟨b104', 0, none⟩) (4) (4)),
   is (.int .i64 ((k : Int))),
   is (.pointer (some ⟨b104', 0 + k * 1, none⟩)),
   is (.slice (some ⟨(sa105' k), 0, none⟩) (3) ((sc106' k))),
   is (.pointer (some ⟨(sa105' k), 2, none⟩)),
   is (.int .i64 (sx 1 k)),
   is (.slice (some ⟨ga42, 0, none⟩) (4) (ca42)),
   is (.int .i64 ((k : Int))),
   is (.pointer (some ⟨ga42, 0 + k * 4, none⟩)),
   is (.pointer (some ⟨ga42, 0 + k * 4 + 3, none⟩)),
   is (.slice (some ⟨((adN bk9 bk10 bk11 bk6) k), 0, none⟩) (3) (3)),
   is (.pointer (some ⟨((adN bk9 bk10 bk11 bk6) k), 2, none⟩)),
   is (.int .i64 (jv (k * 5 + 4))),
   is (.int .i64 ((sx 1 k) + (jv (k * 5 + 4)))),
   is (.int .i64 ((sx 0 k) + (jv (k * 5 + 4)))),
   is (.int .i64 ((sx 1 k) + (jv (k * 5 + 4))))])
   ⟨is_k, is_k, is_k, is_k, is_k, is_k, is_k, is_k, is_k, is_k, is_k, is_k, is_k, is_k, is_k, is_k, is_k, is_k, is_k, is_k, is_k, is_k, is_k, is_k, is_k, is_k, is_k, is_k, is_k, is_k, trivial⟩
   ⟨fun f s W g i j l m a => opv rfl rfl (by simp [go_sem, a.e 14 k62_14]) rfl,
  fun f s W g i j l m a => opv rfl rfl (by simp [go_sem, a.e 19 k62_19]) rfl,
  fun f s W g i j l m a => by have li_ := Nat.not_le.2 (show k < 4 by omega); have li2_ : (k : Int) < 4 := (by omega); have li3_ : (0 : Int) ≤ (k : Int) := (by omega); exact opv rfl rfl (by simp [go_sem, a.e 159 (i 0 rfl), a.e 160 (i 1 rfl), li_, li2_, li3_]) rfl,
  fun f s W g i j l m a => by have aW := below_trans fA62 g; have cu_ := (((StL.below ft_1 aW)).2 k (by omega)).1; exact opv rfl rfl (by simp [go_sem, a.e 161 (i 2 rfl), cu_]) rfl,
  fun f s W g i j l m a => opv rfl rfl (by simp [go_sem, a.e 162 (i 3 rfl)]) rfl,
  fun f s W g i j l m a => by have aW := below_trans fA62 g; have cu_ := da_at2 (((StL.below ft_1 aW)).2 k (by omega)).2; rw [hsx 0 k] at cu_; exact opv rfl rfl (by simp [go_sem, a.e 163 (i 4 rfl), cu_]) rfl,
  fun f s W g i j l m a => by have aW := below_trans fA62 g; exact opv rfl rfl (by simp [go_sem, a.e 8 k62_8, cb bl_1 aW 0]) rfl,
  fun f s W g i j l m a => opv rfl rfl (by simp [go_sem, a.e 19 k62_19]) rfl,
  fun f s W g i j l m a => by have li_ := Nat.not_le.2 (show k < 4 by omega); have li2_ : (k : Int) < 4 := (by omega); have li3_ : (0 : Int) ≤ (k : Int) := (by omega); exact opv rfl rfl (by simp [go_sem, a.e 165 (i 6 rfl), a.e 166 (i 7 rfl), li_, li2_, li3_]) rfl,
  fun f s W g i j l m a => opv rfl rfl (by simp [go_sem, a.e 167 (i 8 rfl)]) rfl,
  fun f s W g i j l m a => by have aW := below_trans fA62 g; have cu_ := (((JbR.below ft_0 aW)).2 k (by omega)).2.2.2.1; rw [show (adB bk9 bk10 bk11 bk6) k = some ⟨(adN bk9 bk10 bk11 bk6) k, 0, none⟩ from rfl] at cu_; simp only [Nat.zero_add, jsB_ms] at cu_; exact opv rfl rfl (by simp [go_sem, a.e 168 (i 9 rfl), cu_]) rfl,
  fun f s W g i j l m a => opv rfl rfl (by simp [go_sem, a.e 169 (i 10 rfl)]) rfl,
  fun f s W g i j l m a => by have aW := below_trans fA62 g; have cu_ := da_at2 (show Ii _ (some ⟨(adN bk9 bk10 bk11 bk6) k, 0, none⟩) 3 3 (jsB jv k).ms from (((JbR.below ft_0 aW)).2 k (by omega)).2.2.2.2); rw [show elT (jsB jv k).ms 2 = jv (k * 5 + 4) from rfl] at cu_; exact opv rfl rfl (by simp [go_sem, a.e 170 (i 11 rfl), cu_]) rfl,
  fun f s W g i j l m a => opv rfl rfl (by simp [go_sem, a.e 164 (i 5 rfl), a.e 171 (i 12 rfl), IntWalk.i64_in ((sx 0 k) + (jv (k * 5 + 4))) (by omega)]) rfl,
  fun f s W g i j l m a => opv rfl rfl (by simp [go_sem, a.e 16 k62_16]) rfl,
  fun f s W g i j l m a => opv rfl rfl (by simp [go_sem, a.e 19 k62_19]) rfl,
  fun f s W g i j l m a => by have li_ := Nat.not_le.2 (show k < 4 by omega); have li2_ : (k : Int) < 4 := (by omega); have li3_ : (0 : Int) ≤ (k : Int) := (by omega); exact opv rfl rfl (by simp [go_sem, a.e 173 (i 14 rfl), a.e 174 (i 15 rfl), li_, li2_, li3_]) rfl,
  fun f s W g i j l m a => by have aW := below_trans fA62 g; have cu_ := (((StL.below ft_2 aW)).2 k (by omega)).1; exact opv rfl rfl (by simp [go_sem, a.e 175 (i 16 rfl), cu_]) rfl,
  fun f s W g i j l m a => opv rfl rfl (by simp [go_sem, a.e 176 (i 17 rfl)]) rfl,
  fun f s W g i j l m a => by have aW := below_trans fA62 g; have cu_ := da_at2 (((StL.below ft_2 aW)).2 k (by omega)).2; rw [hsx 1 k] at cu_; exact opv rfl rfl (by simp [go_sem, a.e 177 (i 18 rfl), cu_]) rfl,
  fun f s W g i j l m a => by have aW := below_trans fA62 g; exact opv rfl rfl (by simp [go_sem, a.e 8 k62_8, cb bl_1 aW 0]) rfl,
  fun f s W g i j l m a => opv rfl rfl (by simp [go_sem, a.e 19 k62_19]) rfl,
  fun f s W g i j l m a => by have li_ := Nat.not_le.2 (show k < 4 by omega); have li2_ : (k : Int) < 4 := (by omega); have li3_ : (0 : Int) ≤ (k : Int) := (by omega); exact opv rfl rfl (by simp [go_sem, a.e 179 (i 20 rfl), a.e 180 (i 21 rfl), li_, li2_, li3_]) rfl,
  fun f s W g i j l m a => opv rfl rfl (by simp [go_sem, a.e 181 (i 22 rfl)]) rfl,
  fun f s W g i j l m a => by have aW := below_trans fA62 g; have cu_ := (((JbR.below ft_0 aW)).2 k (by omega)).2.2.2.1; rw [show (adB bk9 bk10 bk11 bk6) k = some ⟨(adN bk9 bk10 bk11 bk6) k, 0, none⟩ from rfl] at cu_; simp only [Nat.zero_add, jsB_ms] at cu_; exact opv rfl rfl (by simp [go_sem, a.e 182 (i 23 rfl), cu_]) rfl,
  fun f s W g i j l m a => opv rfl rfl (by simp [go_sem, a.e 183 (i 24 rfl)]) rfl,
  fun f s W g i j l m a => by have aW := below_trans fA62 g; have cu_ := da_at2 (show Ii _ (some ⟨(adN bk9 bk10 bk11 bk6) k, 0, none⟩) 3 3 (jsB jv k).ms from (((JbR.below ft_0 aW)).2 k (by omega)).2.2.2.2); rw [show elT (jsB jv k).ms 2 = jv (k * 5 + 4) from rfl] at cu_; exact opv rfl rfl (by simp [go_sem, a.e 184 (i 25 rfl), cu_]) rfl,
  fun f s W g i j l m a => opv rfl rfl (by simp [go_sem, a.e 178 (i 19 rfl), a.e 185 (i 26 rfl), IntWalk.i64_in ((sx 1 k) + (jv (k * 5 + 4))) (by omega)]) rfl,
  fun f s W g i j l m a => opv rfl rfl (by simp [go_sem, a.e 172 (i 13 rfl)]) rfl,
  fun f s W g i j l m a => opv rfl rfl (by simp [go_sem, a.e 186 (i 27 rfl)]) rfl, trivial⟩ ?_
  intro f63 s63 W63 hB63 g63 hg63
  have fB63 := hB63.f fB62
  have z63 := hB63.below.size
  have fA63 := hB63.f fA62
  have b63_2 := hB63.b b62_2
  refine hK51 _ _ ?_
  have k63_6 := kt hg63 6 k62_6
  have k63_8 := kt hg63 8 k62_8
  have k63_14 := kt hg63 14 k62_14
  have k63_16 := kt hg63 16 k62_16
  have k63_18 := kt hg63 18 k62_18
  have k63_19 := kt hg63 19 k62_19
  have k63_20 := kt hg63 20 (hB63.is 28)
  have k63_21 := kt hg63 21 (hB63.is 29)
  refine wp_seq_k fun K52 hK52 => ?_
  refine wp_seq_k fun K53 hK53 => ?_
  refine region_dk 11 [(187, 0), (188, 1), (189, 2), (190, 3), (191, 4), (192, 5), (193, 6), (194, 7), (195, 8), (196, 9), (197, 10)] [[], [0], [0, 1], [0, 1, 2], [0, 1, 2], [0, 1, 2, 3, 4], [0, 1, 2, 3, 4, 5], [0, 1, 2, 3, 4, 5, 6], [0, 1, 2, 3, 4, 5, 6, 7], [0, 1, 2, 3, 4, 5, 6, 7, 8], [0, 1, 2, 3, 4, 5, 6, 7, 8, 9]] (rel [is (.int .i64 ((sx 0 k) + (jv (k * 5 + 4)))),
   is (.bool false),
   is (.bool false),
   is (.int .i64 ((sx 1 k) + (jv (k * 5 + 4)))),
   is (.int .i64 ((sx 0 k) + (jv (k * 5 + 4)))),
   is (.bool false),
   is (.bool false),
   is (.bool false),
   is (.int .i64 ((sx 1 k) + (jv (k * 5 + 4)))),
   is (.bool false),
   is (.bool false)])
   ⟨is_k, is_k, is_k, is_k, is_k, is_k, is_k, is_k, is_k, is_k, is_k, trivial⟩
   ⟨fun f s W g i j l m a => opv rfl rfl (by simp [go_sem, a.e 20 k63_20]) rfl,
  fun f s W g i j l m a => by have de_ : (decide (((sx 0 k) + (jv (k * 5 + 4))) < 0)) = false := decide_eq_false (by omega); exact opv rfl rfl (by simp [go_sem, a.e 187 (i 0 rfl), de_, hs_.2.1]) rfl,
  fun f s W g i j l m a => opv rfl rfl (by simp [go_sem, a.e 188 (i 1 rfl)]) rfl,
  fun f s W g i j l m a => osure rfl rfl (a.says (d := 189) rfl rfl (i 2 rfl)) (gv (by simp [go_sem, a.e 21 k63_21]) rfl),
  fun f s W g i j l m a => osure rfl rfl (a.says (d := 189) rfl rfl (i 2 rfl)) (gv (by simp [go_sem, a.e 20 k63_20]) rfl),
  fun f s W g i j l m a => osure rfl rfl (a.says (d := 189) rfl rfl (i 2 rfl)) (by have de_ : (decide (((sx 1 k) + (jv (k * 5 + 4))) < ((sx 0 k) + (jv (k * 5 + 4))))) = false := decide_eq_false (by omega); exact gv (by simp [go_sem, a.e 190 (i 3 rfl), a.e 191 (i 4 rfl), de_, hs_.2.1]) rfl),
  fun f s W g i j l m a => opk (c := false) rfl rfl (fun _ => by simp [go_sem, a.e 189 (i 2 rfl), a.e 192 (i 5 rfl)]) (fun h => absurd h (by decide)),
  fun f s W g i j l m a => opv rfl rfl (by simp [go_sem, a.e 193 (i 6 rfl)]) rfl,
  fun f s W g i j l m a => osure rfl rfl (a.says (d := 194) rfl rfl (i 7 rfl)) (gv (by simp [go_sem, a.e 21 k63_21]) rfl),
  fun f s W g i j l m a => osure rfl rfl (a.says (d := 194) rfl rfl (i 7 rfl)) (by have de_ : (decide (30000 < ((sx 1 k) + (jv (k * 5 + 4))))) = false := decide_eq_false (by omega); exact gv (by simp [go_sem, a.e 195 (i 8 rfl), de_, hs_.2.1]) rfl),
  fun f s W g i j l m a => opk (c := false) rfl rfl (fun _ => by simp [go_sem, a.e 194 (i 7 rfl), a.e 196 (i 9 rfl)]) (fun h => absurd h (by decide)), trivial⟩ ?_
  intro f64 s64 W64 hB64 g64 hg64
  have fB64 := hB64.f fB63
  have z64 := hB64.below.size
  have fA64 := hB64.f fA63
  have b64_2 := hB64.b b63_2
  refine hK53 _ _ ?_
  have k64_6 := kt hg64 6 k63_6
  have k64_8 := kt hg64 8 k63_8
  have k64_14 := kt hg64 14 k63_14
  have k64_16 := kt hg64 16 k63_16
  have k64_18 := kt hg64 18 k63_18
  have k64_19 := kt hg64 19 k63_19
  have k64_20 := kt hg64 20 k63_20
  have k64_21 := kt hg64 21 k63_21
  have k64_197 := kt hg64 197 (hB64.is 10)
  refine wp_cond_false ((fr_eval rfl).trans k64_197) ?_
  refine wp_skip ?_
  refine hK52 _ _ ?_
  refine wp_seq_k fun K55 hK55 => ?_
  refine region_dk 2 [(198, 0), (22, 1)] [[], [], [0, 1]] (rel [is (.agg #[.int .i64 0, .int .i64 0, .int .i64 0, .int .i64 0]),
   bx 1 #[.int .i64 0, .int .i64 0, .int .i64 0, .int .i64 0] 44])
   ⟨is_k, bx_k, trivial⟩
   ⟨fun f s W g i j l m a => opv rfl rfl (by simp [go_sem]) rfl,
  fun f s W g i j l m a => opb rfl rfl (by simp [go_sem]), trivial⟩ ?_
  intro f65 s65 W65 hB65 g65 hg65
  have fB65 := hB65.f fB64
  have z65 := hB65.below.size
  have fA65 := hB65.f fA64
  have b65_2 := hB65.b b64_2
  obtain ⟨r65_1, br65_1⟩ := hB65.is 1
  have lr65_1 := hB65.lr 1 br65_1
  have k65_6 := kt hg65 6 k64_6
  have k65_8 := kt hg65 8 k64_8
  have k65_14 := kt hg65 14 k64_14
  have k65_16 := kt hg65 16 k64_16
  have k65_18 := kt hg65 18 k64_18
  have k65_19 := kt hg65 19 k64_19
  have k65_20 := kt hg65 20 k64_20
  have k65_21 := kt hg65 21 k64_21
  have k65_198 := kt hg65 198 (hB65.is 0)
  have k65_22 := kt hg65 22 r65_1
  obtain ⟨W66, hW66⟩ : ∃ W', W' = W65.setRow (s65 1) #[.int .i64 0, .int .i64 0, .int .i64 0, .int .i64 0] := ⟨_, rfl⟩
  refine tail_skip (o := _) rfl ⟨rfl, rfl⟩ (run_seg hW66 (fr_ev k65_22) (fr_ev k65_198) br65_1 rfl rfl rfl rfl) ?_
  obtain ⟨fB66, nb66, ot66, z66⟩ := seg_facts hW66 fB65 br65_1 (by omega)
  have fA66 := (seg_facts hW66 fA65 br65_1 (by omega)).1
  clear hW66
  have b66_2 := ot66 _ _ (by first | assumption | exact Ne.symm (by assumption) | omega) b65_2
  refine wpOps_end ?_
  refine hK55 _ _ ?_
  refine wp_seq_k fun K56 hK56 => ?_
  refine wp_seq_k fun K57 hK57 => ?_
  refine region_dk 1 [(23, 0)] [[]] (rel [is (.int .i64 0)])
   ⟨is_k, trivial⟩
   ⟨fun f s W g i j l m a => opv rfl rfl (by simp [go_sem]) rfl, trivial⟩ ?_
  intro f67 s67 W67 hB67 g67 hg67
  have fB67 := hB67.f fB66
  have z67 := hB67.below.size
  have fA67 := hB67.f fA66
  have b67_2 := hB67.b b66_2
  have b67_3 := hB67.b nb66
  refine hK57 _ _ ?_
  have k67_6 := kt hg67 6 k65_6
  have k67_8 := kt hg67 8 k65_8
  have k67_14 := kt hg67 14 k65_14
  have k67_16 := kt hg67 16 k65_16
  have k67_18 := kt hg67 18 k65_18
  have k67_19 := kt hg67 19 k65_19
  have k67_20 := kt hg67 20 k65_20
  have k67_21 := kt hg67 21 k65_21
  have k67_22 := kt hg67 22 k65_22
  have k67_23 := kt hg67 23 (hB67.is 0)
  refine wp_block ?_
  refine wp_loop_rounds 3 ?_
  rw [rounds_succ]
  refine wp_seq_k fun K58 hK58 => ?_
  refine wp_seq_k fun K59 hK59 => ?_
  refine region_dk 2 [(199, 0), (200, 1)] [[], [0]] (rel [is (.int .i64 0),
   is (.bool true)])
   ⟨is_k, is_k, trivial⟩
   ⟨fun f s W g i j l m a => opv rfl rfl (by simp [go_sem, a.e 23 k67_23]) rfl,
  fun f s W g i j l m a => opv rfl rfl (by simp [go_sem, a.e 199 (i 0 rfl)]) rfl, trivial⟩ ?_
  intro f68 s68 W68 hB68 g68 hg68
  have fB68 := hB68.f fB67
  have z68 := hB68.below.size
  have fA68 := hB68.f fA67
  have b68_2 := hB68.b b67_2
  have b68_3 := hB68.b b67_3
  refine hK59 _ _ ?_
  have k68_6 := kt hg68 6 k67_6
  have k68_8 := kt hg68 8 k67_8
  have k68_14 := kt hg68 14 k67_14
  have k68_16 := kt hg68 16 k67_16
  have k68_18 := kt hg68 18 k67_18
  have k68_19 := kt hg68 19 k67_19
  have k68_20 := kt hg68 20 k67_20
  have k68_21 := kt hg68 21 k67_21
  have k68_22 := kt hg68 22 k67_22
  have k68_23 := kt hg68 23 k67_23
  have k68_200 := kt hg68 200 (hB68.is 1)
  refine wp_cond_true ((fr_eval rfl).trans k68_200) ?_
  refine wp_skip ?_
  refine hK58 _ _ ?_
  refine wp_seq_k fun K61 hK61 => ?_
  refine wp_block ?_
  refine wp_seq_k fun K62 hK62 => ?_
  refine region_dk 17 [(204, 0), (205, 1), (206, 2), (207, 3), (208, 4), (209, 5), (210, 6), (211, 7), (212, 8), (213, 9), (214, 10), (215, 11), (203, 12), (216, 13), (217, 14), (24, 15), (25, 16)] [[], [], [1], [], [], [3, 4], [], [3, 4, 5, 6], [3, 4, 5, 6, 7], [1, 2, 3, 4, 5, 6, 7, 8], [1, 2, 3, 4, 5, 6, 7, 8, 9], [0, 1, 2, 3, 4, 5, 6, 7, 8, 9, 10], [0, 1, 2, 3, 4, 5, 6, 7, 8, 9, 10, 11], [0, 1, 2, 3, 4, 5, 6, 7, 8, 9, 10, 11, 12], [0, 1, 2, 3, 4, 5, 6, 7, 8, 9, 10, 11, 12], [0, 1, 2, 3, 4, 5, 6, 7, 8, 9, 10, 11, 12, 13], [0, 1, 2, 3, 4, 5, 6, 7, 8, 9, 10, 11, 12, 13, 14, 15]] (rel [is (.agg #[.int .i64 (1 + ((chv 3) % 5)), .int .i64 3]),
   is (.agg #[.int .i64 50, .int .i64 60]),
   is (.agg #[.int .i64 200, .int .i64 220]),
   is (.int .i64 ((sx 0 k) + (jv (k * 5 + 4)))),
   is (.int .i64 ((sx 1 k) + (jv (k * 5 + 4)))),
   is (.agg #[.int .i64 ((sx 0 k) + (jv (k * 5 + 4))), .int .i64 ((sx 1 k) + (jv (k * 5 + 4)))]),
   is (.int .i64 0),
   is (.int .i64 ((sx 0 k) + (jv (k * 5 + 4)))),
   is (.int .i64 ((((sx 0 k) + (jv (k * 5 + 4))) / 60))),
   is (.agg #[.int .i64 200, .int .i64 220, .int .i64 ((((sx 0 k) + (jv (k * 5 + 4))) / 60))]),
   row 10 1 #[.int .i64 200, .int .i64 220, .int .i64 ((((sx 0 k) + (jv (k * 5 + 4))) / 60))] 51,
   ab fun v W => ∃ x0, v = .tuple #[x0, .int .i64 0] ∧ IsW (mo 0 k) x0 W,
   ab fun v W => ∃ x0, v = .tuple #[x0, .int .i64 0] ∧ IsW (mo 0 k) x0 W,
   ab fun v W => IsW (mo 0 k) v W,
   is (.int .i64 0),
   ab fun v W => IsW (mo 0 k) v W,
   is (.int .i64 0)])
   ⟨is_k, is_k, is_k, is_k, is_k, is_k, is_k, is_k, is_k, is_k, row_k, ab_k fun v W W' hb ⟨x0, e, h0⟩ => ⟨x0, e, (IsW.below h0 hb)⟩, ab_k fun v W W' hb ⟨x0, e, h0⟩ => ⟨x0, e, (IsW.below h0 hb)⟩, ab_k fun v W W' hb h => (IsW.below h hb), is_k, ab_k fun v W W' hb h => (IsW.below h hb), is_k, trivial⟩
   ⟨fun f s W g i j l m a => opv rfl rfl (by simp [go_sem, a.e 18 k68_18, cb b68_2 g 0, cb b68_2 g 1]) rfl,
  fun f s W g i j l m a => opc rfl rfl (by simp [go_sem]) (arm_span (50) (60) W),
  fun f s W g i j l m a => opc rfl rfl (by simp [go_sem]) (arm_span (200) (220) W),
  fun f s W g i j l m a => opv rfl rfl (by simp [go_sem, a.e 20 k68_20]) rfl,
  fun f s W g i j l m a => opv rfl rfl (by simp [go_sem, a.e 21 k68_21]) rfl,
  fun f s W g i j l m a => opv rfl rfl (by simp [go_sem, a.e 207 (i 3 rfl), a.e 208 (i 4 rfl)]) rfl,
  fun f s W g i j l m a => opv rfl rfl (by simp [go_sem, a.e 23 k68_23]) rfl,
  fun f s W g i j l m a => by have ix_ : ∀ W : World, (Instr.index 49 (.agg #[.int .i64 ((sx 0 k) + (jv (k * 5 + 4))), .int .i64 ((sx 1 k) + (jv (k * 5 + 4)))]) (.int .i64 0)).run Try.prog W = .ok (.int .i64 ((sx 0 k) + (jv (k * 5 + 4)))) W := fun W => (by kernel_rfl); exact opv rfl rfl (by simp [go_sem, a.e 209 (i 5 rfl), a.e 210 (i 6 rfl), ix_]) rfl,
  fun f s W g i j l m a => by have qu_ : ((sx 0 k) + (jv (k * 5 + 4))).tdiv 60 = (((sx 0 k) + (jv (k * 5 + 4))) / 60) := Int.tdiv_eq_ediv_of_nonneg (by omega); have qw_ := IntWalk.i64_in (((sx 0 k) + (jv (k * 5 + 4))) / 60) (by omega); exact opv rfl rfl (by simp [go_sem, a.e 211 (i 7 rfl), qu_, qw_]) rfl,
  fun f s W g i j l m a => opv rfl rfl (by simp [go_sem, a.e 206 (i 2 rfl), a.e 212 (i 8 rfl)]) rfl,
  fun f s W g i j l m a => opr rfl rfl (by simp [go_sem, a.e 213 (i 9 rfl)]),
  fun f s W g i j l m a => opDo_call (args := #[.agg #[.int .i64 (1 + ((chv 3) % 5)), .int .i64 3], .agg #[.int .i64 50, .int .i64 60], .slice (some ⟨(s 10), 0, none⟩) (1) (1)]) rfl rfl (by simp [go_sem, a.e 204 (i 0 rfl), a.e 205 (i 1 rfl), a.e 214 (i 10 rfl).1]) (after_one (1 + ((chv 3) % 5)) ((((sx 0 k) + (jv (k * 5 + 4))) / 60)) (mo 0 k) (s 10) 1 _ W (i 10 rfl).2 (by omega) (by omega) (hmo 0 k)) ((fun e W' h => by obtain ⟨v, e1, h1, h2⟩ := h; exact ⟨_, e1, h2, ⟨v, rfl, h1⟩⟩)),
  fun f s W g i j l m a => opv (v := (f 11)) rfl rfl (by simp [go_sem, (a.at' 215 rfl : m.tmps[215]?.getD undef = f 11)] <;> rfl) (i 11 rfl),
  fun f s W g i j l m a => by obtain ⟨x12_0, d12, p12_0⟩ := (i 12 rfl); exact opv (v := x12_0) rfl rfl (by simp [go_sem, a.e 203 d12]) p12_0,
  fun f s W g i j l m a => by obtain ⟨x12_0, d12, p12_0⟩ := (i 12 rfl); exact opv rfl rfl (by simp [go_sem, a.e 203 d12]) rfl,
  fun f s W g i j l m a => opv (v := (f 13)) rfl rfl (by simp [go_sem, (a.at' 216 rfl : m.tmps[216]?.getD undef = f 13)] <;> rfl) (i 13 rfl),
  fun f s W g i j l m a => opv rfl rfl (by simp [go_sem, a.e 217 (i 14 rfl)]) rfl, trivial⟩ ?_
  intro f69 s69 W69 hB69 g69 hg69
  have fB69 := hB69.f fB68
  have z69 := hB69.below.size
  have fA69 := hB69.f fA68
  have b69_2 := hB69.b b68_2
  have b69_3 := hB69.b b68_3
  obtain ⟨r69_10, br69_10⟩ := hB69.is 10
  have lr69_10 := hB69.lr 10 br69_10
  obtain ⟨b115', c116', r69_15, q117'⟩ := hB69.is 15
  refine hK62 _ _ ?_
  have k69_6 := kt hg69 6 k68_6
  have k69_8 := kt hg69 8 k68_8
  have k69_14 := kt hg69 14 k68_14
  have k69_16 := kt hg69 16 k68_16
  have k69_18 := kt hg69 18 k68_18
  have k69_19 := kt hg69 19 k68_19
  have k69_20 := kt hg69 20 k68_20
  have k69_21 := kt hg69 21 k68_21
  have k69_22 := kt hg69 22 k68_22
  have k69_23 := kt hg69 23 k68_23
  have k69_200 := kt hg69 200 k68_200
  have k69_214 := kt hg69 214 r69_10
  have k69_24 := kt hg69 24 r69_15
  have k69_25 := kt hg69 25 (hB69.is 16)
  refine wp_seq_k fun K63 hK63 => ?_
  refine wp_seq_k fun K64 hK64 => ?_
  refine region_dk 7 [(218, 0), (219, 1), (220, 2), (221, 3), (222, 4), (223, 5), (224, 6)] [[], [0], [0, 1], [0, 1, 2], [0, 1, 2, 3], [0, 1, 2, 3, 4], [0, 1, 2, 3, 4, 5]] (rel [is (.int .i64 0),
   is (.bool false),
   is (.bool false),
   is (.slice (some ⟨b115', 0, none⟩) (1) (c116')),
   is (.int .i64 1),
   is (.bool false),
   is (.bool false)])
   ⟨is_k, is_k, is_k, is_k, is_k, is_k, is_k, trivial⟩
   ⟨fun f s W g i j l m a => opv rfl rfl (by simp [go_sem, a.e 25 k69_25]) rfl,
  fun f s W g i j l m a => opv rfl rfl (by simp [go_sem, a.e 218 (i 0 rfl)]) rfl,
  fun f s W g i j l m a => opv rfl rfl (by simp [go_sem, a.e 219 (i 1 rfl)]) rfl,
  fun f s W g i j l m a => osure rfl rfl (a.says (d := 220) rfl rfl (i 2 rfl)) (gv (by simp [go_sem, a.e 24 k69_24]) rfl),
  fun f s W g i j l m a => osure rfl rfl (a.says (d := 220) rfl rfl (i 2 rfl)) (gv (by simp [go_sem, a.e 221 (i 3 rfl)]) rfl),
  fun f s W g i j l m a => osure rfl rfl (a.says (d := 220) rfl rfl (i 2 rfl)) (gv (by simp [go_sem, a.e 222 (i 4 rfl)]) rfl),
  fun f s W g i j l m a => opk (c := false) rfl rfl (fun _ => by simp [go_sem, a.e 220 (i 2 rfl), a.e 223 (i 5 rfl)]) (fun h => absurd h (by decide)), trivial⟩ ?_
  intro f70 s70 W70 hB70 g70 hg70
  have fB70 := hB70.f fB69
  have z70 := hB70.below.size
  have fA70 := hB70.f fA69
  have b70_2 := hB70.b b69_2
  have b70_3 := hB70.b b69_3
  have b70_4 := hB70.b br69_10
  have q118' := (SpR.below q117' hB70.below)
  refine hK64 _ _ ?_
  have k70_6 := kt hg70 6 k69_6
  have k70_8 := kt hg70 8 k69_8
  have k70_14 := kt hg70 14 k69_14
  have k70_16 := kt hg70 16 k69_16
  have k70_18 := kt hg70 18 k69_18
  have k70_19 := kt hg70 19 k69_19
  have k70_20 := kt hg70 20 k69_20
  have k70_21 := kt hg70 21 k69_21
  have k70_22 := kt hg70 22 k69_22
  have k70_23 := kt hg70 23 k69_23
  have k70_200 := kt hg70 200 k69_200
  have k70_214 := kt hg70 214 k69_214
  have k70_24 := kt hg70 24 k69_24
  have k70_25 := kt hg70 25 k69_25
  have k70_224 := kt hg70 224 (hB70.is 6)
  refine wp_cond_false ((fr_eval rfl).trans k70_224) ?_
  refine wp_skip ?_
  refine hK63 _ _ ?_
  refine region_dk 5 [(225, 0), (226, 1), (227, 2), (228, 3), (229, 4)] [[], [], [1], [1, 2], [0, 1, 2, 3], [0, 1, 2, 3, 4]] (rel [is (.int .i64 0),
   is (.slice (some ⟨b115', 0, none⟩) (1) (c116')),
   is (.pointer (some ⟨b115', 0, none⟩)),
   is (.agg #[.int .i64 ((mo 0 k).1), .int .i64 ((mo 0 k).2)]),
   is (.pointer (some ⟨(s65 1), 0, none⟩))])
   ⟨is_k, is_k, is_k, is_k, is_k, trivial⟩
   ⟨fun f s W g i j l m a => opv rfl rfl (by simp [go_sem, a.e 23 k70_23]) rfl,
  fun f s W g i j l m a => opv rfl rfl (by simp [go_sem, a.e 24 k70_24]) rfl,
  fun f s W g i j l m a => opv rfl rfl (by simp [go_sem, a.e 226 (i 1 rfl)]) rfl,
  fun f s W g i j l m a => by have cu_ := ((SpR.below q118' g)).2 0 (by decide); have cu0_ := cu_.1; have cu1_ := cu_.2; simp only [Nat.zero_mul, Nat.add_zero, Nat.zero_add] at cu0_ cu1_; exact opv rfl rfl (by simp [go_sem, a.e 227 (i 2 rfl), cu0_, cu1_]) rfl,
  fun f s W g i j l m a => opv rfl rfl (by simp [go_sem, a.e 22 k70_22, a.e 225 (i 0 rfl)]) rfl, trivial⟩ ?_
  intro f71 s71 W71 hB71 g71 hg71
  have fB71 := hB71.f fB70
  have z71 := hB71.below.size
  have fA71 := hB71.f fA70
  have b71_2 := hB71.b b70_2
  have b71_3 := hB71.b b70_3
  have b71_4 := hB71.b b70_4
  have q119' := (SpR.below q118' hB71.below)
  have k71_6 := kt hg71 6 k70_6
  have k71_8 := kt hg71 8 k70_8
  have k71_14 := kt hg71 14 k70_14
  have k71_16 := kt hg71 16 k70_16
  have k71_18 := kt hg71 18 k70_18
  have k71_19 := kt hg71 19 k70_19
  have k71_20 := kt hg71 20 k70_20
  have k71_21 := kt hg71 21 k70_21
  have k71_22 := kt hg71 22 k70_22
  have k71_23 := kt hg71 23 k70_23
  have k71_200 := kt hg71 200 k70_200
  have k71_214 := kt hg71 214 k70_214
  have k71_24 := kt hg71 24 k70_24
  have k71_25 := kt hg71 25 k70_25
  have k71_224 := kt hg71 224 k70_224
  have k71_228 := kt hg71 228 (hB71.is 3)
  have k71_229 := kt hg71 229 (hB71.is 4)
  obtain ⟨W72, hW72⟩ : ∃ W', W' = W71.setRow (s65 1) #[.int .i64 ((mo 0 k).1), .int .i64 ((mo 0 k).2), .int .i64 0, .int .i64 0] := ⟨_, rfl⟩
  refine tail_skip (o := _) rfl ⟨rfl, rfl⟩ (run_seg hW72 (fr_ev k71_229) (fr_ev k71_228) b71_3 rfl rfl rfl rfl) ?_
  obtain ⟨fB72, nb72, ot72, z72⟩ := seg_facts hW72 fB71 b71_3 (by omega)
  have fA72 := (seg_facts hW72 fA71 b71_3 (by omega)).1
  clear hW72
  have b72_2 := ot72 _ _ (by first | assumption | exact Ne.symm (by assumption) | omega) b71_2
  have b72_4 := ot72 _ _ (by first | assumption | exact Ne.symm (by assumption) | omega) b71_4
  refine wpOps_end ?_
  refine inBlock_normal ?_
  refine hK61 _ _ ?_
  refine region_dk 3 [(201, 0), (202, 1), (23, 2)] [[], [0], [0, 1]] (rel [is (.int .i64 0),
   is (.int .i64 1),
   is (.int .i64 1)])
   ⟨is_k, is_k, is_k, trivial⟩
   ⟨fun f s W g i j l m a => opv rfl rfl (by simp [go_sem, a.e 23 ((l 2 23 rfl rfl).trans k71_23)]) rfl,
  fun f s W g i j l m a => opv rfl rfl (by simp [go_sem, a.e 201 (i 0 rfl), IntWalk.i64_in (1) (by omega)]) rfl,
  fun f s W g i j l m a => opv rfl rfl (by simp [go_sem, a.e 202 (i 1 rfl)]) rfl, trivial⟩ ?_
  intro f73 s73 W73 hB73 g73 hg73
  have fB73 := hB73.f fB72
  have z73 := hB73.below.size
  have fA73 := hB73.f fA72
  have b73_2 := hB73.b b72_2
  have b73_3 := hB73.b nb72
  have b73_4 := hB73.b b72_4
  refine wpOps_end ?_
  have k73_6 := kt hg73 6 k71_6
  have k73_8 := kt hg73 8 k71_8
  have k73_14 := kt hg73 14 k71_14
  have k73_16 := kt hg73 16 k71_16
  have k73_18 := kt hg73 18 k71_18
  have k73_19 := kt hg73 19 k71_19
  have k73_20 := kt hg73 20 k71_20
  have k73_21 := kt hg73 21 k71_21
  have k73_22 := kt hg73 22 k71_22
  have k73_200 := kt hg73 200 k71_200
  have k73_214 := kt hg73 214 k71_214
  have k73_24 := kt hg73 24 k71_24
  have k73_25 := kt hg73 25 k71_25
  have k73_224 := kt hg73 224 k71_224
  have k73_228 := kt hg73 228 k71_228
  have k73_229 := kt hg73 229 k71_229
  have k73_23 := kt hg73 23 (hB73.is 2)
  refine then_normal ?_
  rw [rounds_succ]
  refine wp_seq_k fun K66 hK66 => ?_
  refine wp_seq_k fun K67 hK67 => ?_
  refine region_dk 2 [(199, 0), (200, 1)] [[], [0]] (rel [is (.int .i64 1),
   is (.bool true)])
   ⟨is_k, is_k, trivial⟩
   ⟨fun f s W g i j l m a => opv rfl rfl (by simp [go_sem, a.e 23 k73_23]) rfl,
  fun f s W g i j l m a => opv rfl rfl (by simp [go_sem, a.e 199 (i 0 rfl)]) rfl, trivial⟩ ?_
  intro f74 s74 W74 hB74 g74 hg74
  have fB74 := hB74.f fB73
  have z74 := hB74.below.size
  have fA74 := hB74.f fA73
  have b74_2 := hB74.b b73_2
  have b74_3 := hB74.b b73_3
  have b74_4 := hB74.b b73_4
  refine hK67 _ _ ?_
  have k74_6 := kt hg74 6 k73_6
  have k74_8 := kt hg74 8 k73_8
  have k74_14 := kt hg74 14 k73_14
  have k74_16 := kt hg74 16 k73_16
  have k74_18 := kt hg74 18 k73_18
  have k74_19 := kt hg74 19 k73_19
  have k74_20 := kt hg74 20 k73_20
  have k74_21 := kt hg74 21 k73_21
  have k74_22 := kt hg74 22 k73_22
  have k74_214 := kt hg74 214 k73_214
  have k74_24 := kt hg74 24 k73_24
  have k74_25 := kt hg74 25 k73_25
  have k74_224 := kt hg74 224 k73_224
  have k74_228 := kt hg74 228 k73_228
  have k74_229 := kt hg74 229 k73_229
  have k74_23 := kt hg74 23 k73_23
  have k74_200 := kt hg74 200 (hB74.is 1)
  refine wp_cond_true ((fr_eval rfl).trans k74_200) ?_
  refine wp_skip ?_
  refine hK66 _ _ ?_
  refine wp_seq_k fun K69 hK69 => ?_
  refine wp_block ?_
  refine wp_seq_k fun K70 hK70 => ?_
  refine region_dk 17 [(204, 0), (205, 1), (206, 2), (207, 3), (208, 4), (209, 5), (210, 6), (211, 7), (212, 8), (213, 9), (214, 10), (215, 11), (203, 12), (216, 13), (217, 14), (24, 15), (25, 16)] [[], [], [1], [], [], [3, 4], [], [3, 4, 5, 6], [3, 4, 5, 6, 7], [1, 2, 3, 4, 5, 6, 7, 8], [1, 2, 3, 4, 5, 6, 7, 8, 9], [0, 1, 2, 3, 4, 5, 6, 7, 8, 9, 10], [0, 1, 2, 3, 4, 5, 6, 7, 8, 9, 10, 11], [0, 1, 2, 3, 4, 5, 6, 7, 8, 9, 10, 11, 12], [0, 1, 2, 3, 4, 5, 6, 7, 8, 9, 10, 11, 12], [0, 1, 2, 3, 4, 5, 6, 7, 8, 9, 10, 11, 12, 13], [0, 1, 2, 3, 4, 5, 6, 7, 8, 9, 10, 11, 12, 13, 14, 15]] (rel [is (.agg #[.int .i64 (1 + ((chv 3) % 5)), .int .i64 3]),
   is (.agg #[.int .i64 50, .int .i64 60]),
   is (.agg #[.int .i64 200, .int .i64 220]),
   is (.int .i64 ((sx 0 k) + (jv (k * 5 + 4)))),
   is (.int .i64 ((sx 1 k) + (jv (k * 5 + 4)))),
   is (.agg #[.int .i64 ((sx 0 k) + (jv (k * 5 + 4))), .int .i64 ((sx 1 k) + (jv (k * 5 + 4)))]),
   is (.int .i64 1),
   is (.int .i64 ((sx 1 k) + (jv (k * 5 + 4)))),
   is (.int .i64 ((((sx 1 k) + (jv (k * 5 + 4))) / 60))),
   is (.agg #[.int .i64 200, .int .i64 220, .int .i64 ((((sx 1 k) + (jv (k * 5 + 4))) / 60))]),
   row 10 1 #[.int .i64 200, .int .i64 220, .int .i64 ((((sx 1 k) + (jv (k * 5 + 4))) / 60))] 51,
   ab fun v W => ∃ x0, v = .tuple #[x0, .int .i64 0] ∧ IsW (mo 1 k) x0 W,
   ab fun v W => ∃ x0, v = .tuple #[x0, .int .i64 0] ∧ IsW (mo 1 k) x0 W,
   ab fun v W => IsW (mo 1 k) v W,
   is (.int .i64 0),
   ab fun v W => IsW (mo 1 k) v W,
   is (.int .i64 0)])
   ⟨is_k, is_k, is_k, is_k, is_k, is_k, is_k, is_k, is_k, is_k, row_k, ab_k fun v W W' hb ⟨x0, e, h0⟩ => ⟨x0, e, (IsW.below h0 hb)⟩, ab_k fun v W W' hb ⟨x0, e, h0⟩ => ⟨x0, e, (IsW.below h0 hb)⟩, ab_k fun v W W' hb h => (IsW.below h hb), is_k, ab_k fun v W W' hb h => (IsW.below h hb), is_k, trivial⟩
   ⟨fun f s W g i j l m a => opv rfl rfl (by simp [go_sem, a.e 18 k74_18, cb b74_2 g 0, cb b74_2 g 1]) rfl,
  fun f s W g i j l m a => opc rfl rfl (by simp [go_sem]) (arm_span (50) (60) W),
  fun f s W g i j l m a => opc rfl rfl (by simp [go_sem]) (arm_span (200) (220) W),
  fun f s W g i j l m a => opv rfl rfl (by simp [go_sem, a.e 20 k74_20]) rfl,
  fun f s W g i j l m a => opv rfl rfl (by simp [go_sem, a.e 21 k74_21]) rfl,
  fun f s W g i j l m a => opv rfl rfl (by simp [go_sem, a.e 207 (i 3 rfl), a.e 208 (i 4 rfl)]) rfl,
  fun f s W g i j l m a => opv rfl rfl (by simp [go_sem, a.e 23 k74_23]) rfl,
  fun f s W g i j l m a => by have ix_ : ∀ W : World, (Instr.index 49 (.agg #[.int .i64 ((sx 0 k) + (jv (k * 5 + 4))), .int .i64 ((sx 1 k) + (jv (k * 5 + 4)))]) (.int .i64 1)).run Try.prog W = .ok (.int .i64 ((sx 1 k) + (jv (k * 5 + 4)))) W := fun W => (by kernel_rfl); exact opv rfl rfl (by simp [go_sem, a.e 209 (i 5 rfl), a.e 210 (i 6 rfl), ix_]) rfl,
  fun f s W g i j l m a => by have qu_ : ((sx 1 k) + (jv (k * 5 + 4))).tdiv 60 = (((sx 1 k) + (jv (k * 5 + 4))) / 60) := Int.tdiv_eq_ediv_of_nonneg (by omega); have qw_ := IntWalk.i64_in (((sx 1 k) + (jv (k * 5 + 4))) / 60) (by omega); exact opv rfl rfl (by simp [go_sem, a.e 211 (i 7 rfl), qu_, qw_]) rfl,
  fun f s W g i j l m a => opv rfl rfl (by simp [go_sem, a.e 206 (i 2 rfl), a.e 212 (i 8 rfl)]) rfl,
  fun f s W g i j l m a => opr rfl rfl (by simp [go_sem, a.e 213 (i 9 rfl)]),
  fun f s W g i j l m a => opDo_call (args := #[.agg #[.int .i64 (1 + ((chv 3) % 5)), .int .i64 3], .agg #[.int .i64 50, .int .i64 60], .slice (some ⟨(s 10), 0, none⟩) (1) (1)]) rfl rfl (by simp [go_sem, a.e 204 (i 0 rfl), a.e 205 (i 1 rfl), a.e 214 (i 10 rfl).1]) (after_one (1 + ((chv 3) % 5)) ((((sx 1 k) + (jv (k * 5 + 4))) / 60)) (mo 1 k) (s 10) 1 _ W (i 10 rfl).2 (by omega) (by omega) (hmo 1 k)) ((fun e W' h => by obtain ⟨v, e1, h1, h2⟩ := h; exact ⟨_, e1, h2, ⟨v, rfl, h1⟩⟩)),
  fun f s W g i j l m a => opv (v := (f 11)) rfl rfl (by simp [go_sem, (a.at' 215 rfl : m.tmps[215]?.getD undef = f 11)] <;> rfl) (i 11 rfl),
  fun f s W g i j l m a => by obtain ⟨x12_0, d12, p12_0⟩ := (i 12 rfl); exact opv (v := x12_0) rfl rfl (by simp [go_sem, a.e 203 d12]) p12_0,
  fun f s W g i j l m a => by obtain ⟨x12_0, d12, p12_0⟩ := (i 12 rfl); exact opv rfl rfl (by simp [go_sem, a.e 203 d12]) rfl,
  fun f s W g i j l m a => opv (v := (f 13)) rfl rfl (by simp [go_sem, (a.at' 216 rfl : m.tmps[216]?.getD undef = f 13)] <;> rfl) (i 13 rfl),
  fun f s W g i j l m a => opv rfl rfl (by simp [go_sem, a.e 217 (i 14 rfl)]) rfl, trivial⟩ ?_
  intro f75 s75 W75 hB75 g75 hg75
  have fB75 := hB75.f fB74
  have z75 := hB75.below.size
  have fA75 := hB75.f fA74
  have b75_2 := hB75.b b74_2
  have b75_3 := hB75.b b74_3
  have b75_4 := hB75.b b74_4
  obtain ⟨r75_10, br75_10⟩ := hB75.is 10
  have lr75_10 := hB75.lr 10 br75_10
  obtain ⟨b123', c124', r75_15, q125'⟩ := hB75.is 15
  refine hK70 _ _ ?_
  have k75_6 := kt hg75 6 k74_6
  have k75_8 := kt hg75 8 k74_8
  have k75_14 := kt hg75 14 k74_14
  have k75_16 := kt hg75 16 k74_16
  have k75_18 := kt hg75 18 k74_18
  have k75_19 := kt hg75 19 k74_19
  have k75_20 := kt hg75 20 k74_20
  have k75_21 := kt hg75 21 k74_21
  have k75_22 := kt hg75 22 k74_22
  have k75_224 := kt hg75 224 k74_224
  have k75_228 := kt hg75 228 k74_228
  have k75_229 := kt hg75 229 k74_229
  have k75_23 := kt hg75 23 k74_23
  have k75_200 := kt hg75 200 k74_200
  have k75_214 := kt hg75 214 r75_10
  have k75_24 := kt hg75 24 r75_15
  have k75_25 := kt hg75 25 (hB75.is 16)
  refine wp_seq_k fun K71 hK71 => ?_
  refine wp_seq_k fun K72 hK72 => ?_
  refine region_dk 7 [(218, 0), (219, 1), (220, 2), (221, 3), (222, 4), (223, 5), (224, 6)] [[], [0], [0, 1], [0, 1, 2], [0, 1, 2, 3], [0, 1, 2, 3, 4], [0, 1, 2, 3, 4, 5]] (rel [is (.int .i64 0),
   is (.bool false),
   is (.bool false),
   is (.slice (some ⟨b123', 0, none⟩) (1) (c124')),
   is (.int .i64 1),
   is (.bool false),
   is (.bool false)])
   ⟨is_k, is_k, is_k, is_k, is_k, is_k, is_k, trivial⟩
   ⟨fun f s W g i j l m a => opv rfl rfl (by simp [go_sem, a.e 25 k75_25]) rfl,
  fun f s W g i j l m a => opv rfl rfl (by simp [go_sem, a.e 218 (i 0 rfl)]) rfl,
  fun f s W g i j l m a => opv rfl rfl (by simp [go_sem, a.e 219 (i 1 rfl)]) rfl,
  fun f s W g i j l m a => osure rfl rfl (a.says (d := 220) rfl rfl (i 2 rfl)) (gv (by simp [go_sem, a.e 24 k75_24]) rfl),
  fun f s W g i j l m a => osure rfl rfl (a.says (d := 220) rfl rfl (i 2 rfl)) (gv (by simp [go_sem, a.e 221 (i 3 rfl)]) rfl),
  fun f s W g i j l m a => osure rfl rfl (a.says (d := 220) rfl rfl (i 2 rfl)) (gv (by simp [go_sem, a.e 222 (i 4 rfl)]) rfl),
  fun f s W g i j l m a => opk (c := false) rfl rfl (fun _ => by simp [go_sem, a.e 220 (i 2 rfl), a.e 223 (i 5 rfl)]) (fun h => absurd h (by decide)), trivial⟩ ?_
  intro f76 s76 W76 hB76 g76 hg76
  have fB76 := hB76.f fB75
  have z76 := hB76.below.size
  have fA76 := hB76.f fA75
  have b76_2 := hB76.b b75_2
  have b76_3 := hB76.b b75_3
  have b76_4 := hB76.b b75_4
  have b76_5 := hB76.b br75_10
  have q126' := (SpR.below q125' hB76.below)
  refine hK72 _ _ ?_
  have k76_6 := kt hg76 6 k75_6
  have k76_8 := kt hg76 8 k75_8
  have k76_14 := kt hg76 14 k75_14
  have k76_16 := kt hg76 16 k75_16
  have k76_18 := kt hg76 18 k75_18
  have k76_19 := kt hg76 19 k75_19
  have k76_20 := kt hg76 20 k75_20
  have k76_21 := kt hg76 21 k75_21
  have k76_22 := kt hg76 22 k75_22
  have k76_228 := kt hg76 228 k75_228
  have k76_229 := kt hg76 229 k75_229
  have k76_23 := kt hg76 23 k75_23
  have k76_200 := kt hg76 200 k75_200
  have k76_214 := kt hg76 214 k75_214
  have k76_24 := kt hg76 24 k75_24
  have k76_25 := kt hg76 25 k75_25
  have k76_224 := kt hg76 224 (hB76.is 6)
  refine wp_cond_false ((fr_eval rfl).trans k76_224) ?_
  refine wp_skip ?_
  refine hK71 _ _ ?_
  refine region_dk 5 [(225, 0), (226, 1), (227, 2), (228, 3), (229, 4)] [[], [], [1], [1, 2], [0, 1, 2, 3], [0, 1, 2, 3, 4]] (rel [is (.int .i64 1),
   is (.slice (some ⟨b123', 0, none⟩) (1) (c124')),
   is (.pointer (some ⟨b123', 0, none⟩)),
   is (.agg #[.int .i64 ((mo 1 k).1), .int .i64 ((mo 1 k).2)]),
   is (.pointer (some ⟨(s65 1), 2, none⟩))])
   ⟨is_k, is_k, is_k, is_k, is_k, trivial⟩
   ⟨fun f s W g i j l m a => opv rfl rfl (by simp [go_sem, a.e 23 k76_23]) rfl,
  fun f s W g i j l m a => opv rfl rfl (by simp [go_sem, a.e 24 k76_24]) rfl,
  fun f s W g i j l m a => opv rfl rfl (by simp [go_sem, a.e 226 (i 1 rfl)]) rfl,
  fun f s W g i j l m a => by have cu_ := ((SpR.below q126' g)).2 0 (by decide); have cu0_ := cu_.1; have cu1_ := cu_.2; simp only [Nat.zero_mul, Nat.add_zero, Nat.zero_add] at cu0_ cu1_; exact opv rfl rfl (by simp [go_sem, a.e 227 (i 2 rfl), cu0_, cu1_]) rfl,
  fun f s W g i j l m a => opv rfl rfl (by simp [go_sem, a.e 22 k76_22, a.e 225 (i 0 rfl)]) rfl, trivial⟩ ?_
  intro f77 s77 W77 hB77 g77 hg77
  have fB77 := hB77.f fB76
  have z77 := hB77.below.size
  have fA77 := hB77.f fA76
  have b77_2 := hB77.b b76_2
  have b77_3 := hB77.b b76_3
  have b77_4 := hB77.b b76_4
  have b77_5 := hB77.b b76_5
  have q127' := (SpR.below q126' hB77.below)
  have k77_6 := kt hg77 6 k76_6
  have k77_8 := kt hg77 8 k76_8
  have k77_14 := kt hg77 14 k76_14
  have k77_16 := kt hg77 16 k76_16
  have k77_18 := kt hg77 18 k76_18
  have k77_19 := kt hg77 19 k76_19
  have k77_20 := kt hg77 20 k76_20
  have k77_21 := kt hg77 21 k76_21
  have k77_22 := kt hg77 22 k76_22
  have k77_23 := kt hg77 23 k76_23
  have k77_200 := kt hg77 200 k76_200
  have k77_214 := kt hg77 214 k76_214
  have k77_24 := kt hg77 24 k76_24
  have k77_25 := kt hg77 25 k76_25
  have k77_224 := kt hg77 224 k76_224
  have k77_228 := kt hg77 228 (hB77.is 3)
  have k77_229 := kt hg77 229 (hB77.is 4)
  obtain ⟨W78, hW78⟩ : ∃ W', W' = W77.setRow (s65 1) #[.int .i64 ((mo 0 k).1), .int .i64 ((mo 0 k).2), .int .i64 ((mo 1 k).1), .int .i64 ((mo 1 k).2)] := ⟨_, rfl⟩
  refine tail_skip (o := _) rfl ⟨rfl, rfl⟩ (run_seg hW78 (fr_ev k77_229) (fr_ev k77_228) b77_3 rfl rfl rfl rfl) ?_
  obtain ⟨fB78, nb78, ot78, z78⟩ := seg_facts hW78 fB77 b77_3 (by omega)
  have fA78 := (seg_facts hW78 fA77 b77_3 (by omega)).1
  clear hW78
  have b78_2 := ot78 _ _ (by first | assumption | exact Ne.symm (by assumption) | omega) b77_2
  have b78_4 := ot78 _ _ (by first | assumption | exact Ne.symm (by assumption) | omega) b77_4
  have b78_5 := ot78 _ _ (by first | assumption | exact Ne.symm (by assumption) | omega) b77_5
  refine wpOps_end ?_
  refine inBlock_normal ?_
  refine hK69 _ _ ?_
  refine region_dk 3 [(201, 0), (202, 1), (23, 2)] [[], [0], [0, 1]] (rel [is (.int .i64 1),
   is (.int .i64 2),
   is (.int .i64 2)])
   ⟨is_k, is_k, is_k, trivial⟩
   ⟨fun f s W g i j l m a => opv rfl rfl (by simp [go_sem, a.e 23 ((l 2 23 rfl rfl).trans k77_23)]) rfl,
  fun f s W g i j l m a => opv rfl rfl (by simp [go_sem, a.e 201 (i 0 rfl), IntWalk.i64_in (2) (by omega)]) rfl,
  fun f s W g i j l m a => opv rfl rfl (by simp [go_sem, a.e 202 (i 1 rfl)]) rfl, trivial⟩ ?_
  intro f79 s79 W79 hB79 g79 hg79
  have fB79 := hB79.f fB78
  have z79 := hB79.below.size
  have fA79 := hB79.f fA78
  have b79_2 := hB79.b b78_2
  have b79_3 := hB79.b nb78
  have b79_4 := hB79.b b78_4
  have b79_5 := hB79.b b78_5
  refine wpOps_end ?_
  have k79_6 := kt hg79 6 k77_6
  have k79_8 := kt hg79 8 k77_8
  have k79_14 := kt hg79 14 k77_14
  have k79_16 := kt hg79 16 k77_16
  have k79_18 := kt hg79 18 k77_18
  have k79_19 := kt hg79 19 k77_19
  have k79_20 := kt hg79 20 k77_20
  have k79_21 := kt hg79 21 k77_21
  have k79_22 := kt hg79 22 k77_22
  have k79_200 := kt hg79 200 k77_200
  have k79_214 := kt hg79 214 k77_214
  have k79_24 := kt hg79 24 k77_24
  have k79_25 := kt hg79 25 k77_25
  have k79_224 := kt hg79 224 k77_224
  have k79_228 := kt hg79 228 k77_228
  have k79_229 := kt hg79 229 k77_229
  have k79_23 := kt hg79 23 (hB79.is 2)
  refine then_normal ?_
  rw [rounds_succ]
  refine wp_seq_k fun K74 hK74 => ?_
  refine wp_seq_k fun K75 hK75 => ?_
  refine region_dk 2 [(199, 0), (200, 1)] [[], [0]] (rel [is (.int .i64 2),
   is (.bool false)])
   ⟨is_k, is_k, trivial⟩
   ⟨fun f s W g i j l m a => opv rfl rfl (by simp [go_sem, a.e 23 k79_23]) rfl,
  fun f s W g i j l m a => opv rfl rfl (by simp [go_sem, a.e 199 (i 0 rfl)]) rfl, trivial⟩ ?_
  intro f80 s80 W80 hB80 g80 hg80
  have fB80 := hB80.f fB79
  have z80 := hB80.below.size
  have fA80 := hB80.f fA79
  have b80_2 := hB80.b b79_2
  have b80_3 := hB80.b b79_3
  have b80_4 := hB80.b b79_4
  have b80_5 := hB80.b b79_5
  refine hK75 _ _ ?_
  have k80_6 := kt hg80 6 k79_6
  have k80_8 := kt hg80 8 k79_8
  have k80_14 := kt hg80 14 k79_14
  have k80_16 := kt hg80 16 k79_16
  have k80_18 := kt hg80 18 k79_18
  have k80_19 := kt hg80 19 k79_19
  have k80_20 := kt hg80 20 k79_20
  have k80_21 := kt hg80 21 k79_21
  have k80_22 := kt hg80 22 k79_22
  have k80_214 := kt hg80 214 k79_214
  have k80_24 := kt hg80 24 k79_24
  have k80_25 := kt hg80 25 k79_25
  have k80_224 := kt hg80 224 k79_224
  have k80_228 := kt hg80 228 k79_228
  have k80_229 := kt hg80 229 k79_229
  have k80_23 := kt hg80 23 k79_23
  have k80_200 := kt hg80 200 (hB80.is 1)
  refine wp_cond_false ((fr_eval rfl).trans k80_200) ?_
  refine wp_exit ?_
  refine then_exit ?_
  refine then_exit ?_
  refine inBlock_at ?_
  refine hK56 _ _ ?_
  refine wp_seq_k fun K77 hK77 => ?_
  refine region_dk 22 [(230, 0), (231, 1), (232, 2), (233, 3), (234, 4), (235, 5), (236, 6), (237, 7), (238, 8), (239, 9), (240, 10), (241, 11), (242, 12), (243, 13), (244, 14), (245, 15), (246, 16), (247, 17), (248, 18), (249, 19), (250, 20), (251, 21)] [[], [0], [0, 1], [], [3], [3, 4], [0, 1, 2, 3, 4, 5], [0, 1, 2, 3, 4, 5, 6], [0, 1, 2, 3, 4, 5, 6, 7], [0, 1, 2, 3, 4, 5, 6, 7, 8], [0, 1, 2, 3, 4, 5, 6, 7, 8, 9], [0, 1, 2, 3, 4, 5, 6, 7], [0, 1, 2, 3, 4, 5, 6, 7, 11], [0, 1, 2, 3, 4, 5, 6, 7, 11, 12], [0, 1, 2, 3, 4, 5, 6, 7, 8, 9, 10, 11, 12, 13], [0, 1, 2, 3, 4, 5, 6, 7, 8, 9, 10, 11, 12, 13, 14], [0, 1, 2, 3, 4, 5, 6, 7, 8, 9, 10, 11, 12, 13, 14, 15], [0, 1, 2, 3, 4, 5, 6, 7, 8, 9, 10, 11, 12, 13, 14, 15, 16], [0, 1, 2, 3, 4, 5, 6, 7, 8, 9, 10, 11, 12, 13, 14, 15, 16, 17], [0, 1, 2, 3, 4, 5, 6, 7, 8, 9, 10, 11, 12, 13, 14, 15, 16, 17, 18], [0, 1, 2, 3, 4, 5, 6, 7, 8, 9, 10, 11, 12, 13, 14, 15, 16, 17, 18, 19], [0, 1, 2, 3, 4, 5, 6, 7, 8, 9, 10, 11, 12, 13, 14, 15, 16, 17, 18, 19, 20]] (rel [is (.pointer (some ⟨(s65 1), 2, none⟩)),
   is (.pointer (some ⟨(s65 1), 2, none⟩)),
   is (.int .i64 ((mo 1 k).1)),
   is (.pointer (some ⟨(s65 1), 0, none⟩)),
   is (.pointer (some ⟨(s65 1), 0, none⟩)),
   is (.int .i64 ((mo 0 k).1)),
   is (.bool false),
   is (.bool false),
   is (.pointer (some ⟨(s65 1), 2, none⟩)),
   is (.pointer (some ⟨(s65 1), 3, none⟩)),
   is (.int .i64 ((mo 1 k).2)),
   is (.pointer (some ⟨(s65 1), 0, none⟩)),
   is (.pointer (some ⟨(s65 1), 1, none⟩)),
   is (.int .i64 ((mo 0 k).2)),
   is (.bool false),
   is (.bool false),
   is (.bool false),
   is (.pointer (some ⟨(s65 1), 0, none⟩)),
   is (.pointer (some ⟨(s65 1), 0, none⟩)),
   is (.int .i64 ((mo 0 k).1)),
   is (.bool false),
   is (.bool false)])
   ⟨is_k, is_k, is_k, is_k, is_k, is_k, is_k, is_k, is_k, is_k, is_k, is_k, is_k, is_k, is_k, is_k, is_k, is_k, is_k, is_k, is_k, is_k, trivial⟩
   ⟨fun f s W g i j l m a => opv rfl rfl (by simp [go_sem, a.e 22 k80_22]) rfl,
  fun f s W g i j l m a => opv rfl rfl (by simp [go_sem, a.e 230 (i 0 rfl)]) rfl,
  fun f s W g i j l m a => opv rfl rfl (by simp [go_sem, a.e 231 (i 1 rfl), cb b80_3 g 2]) rfl,
  fun f s W g i j l m a => opv rfl rfl (by simp [go_sem, a.e 22 k80_22]) rfl,
  fun f s W g i j l m a => opv rfl rfl (by simp [go_sem, a.e 233 (i 3 rfl)]) rfl,
  fun f s W g i j l m a => opv rfl rfl (by simp [go_sem, a.e 234 (i 4 rfl), cb b80_3 g 0]) rfl,
  fun f s W g i j l m a => by have de_ : (decide (((mo 1 k).1) < ((mo 0 k).1))) = false := decide_eq_false (by have := hml k (by omega); omega); exact opv rfl rfl (by simp [go_sem, a.e 232 (i 2 rfl), a.e 235 (i 5 rfl), de_, hs_.2.1]) rfl,
  fun f s W g i j l m a => opv rfl rfl (by simp [go_sem, a.e 236 (i 6 rfl)]) rfl,
  fun f s W g i j l m a => osure rfl rfl (a.says (d := 237) rfl rfl (i 7 rfl)) (gv (by simp [go_sem, a.e 22 k80_22]) rfl),
  fun f s W g i j l m a => osure rfl rfl (a.says (d := 237) rfl rfl (i 7 rfl)) (gv (by simp [go_sem, a.e 238 (i 8 rfl)]) rfl),
  fun f s W g i j l m a => osure rfl rfl (a.says (d := 237) rfl rfl (i 7 rfl)) (gv (by simp [go_sem, a.e 239 (i 9 rfl), cb b80_3 g 3]) rfl),
  fun f s W g i j l m a => osure rfl rfl (a.says (d := 237) rfl rfl (i 7 rfl)) (gv (by simp [go_sem, a.e 22 k80_22]) rfl),
  fun f s W g i j l m a => osure rfl rfl (a.says (d := 237) rfl rfl (i 7 rfl)) (gv (by simp [go_sem, a.e 241 (i 11 rfl)]) rfl),
  fun f s W g i j l m a => osure rfl rfl (a.says (d := 237) rfl rfl (i 7 rfl)) (gv (by simp [go_sem, a.e 242 (i 12 rfl), cb b80_3 g 1]) rfl),
  fun f s W g i j l m a => osure rfl rfl (a.says (d := 237) rfl rfl (i 7 rfl)) (by have de_ : (decide (((mo 1 k).2) < ((mo 0 k).2))) = false := decide_eq_false (by have := hml k (by omega); omega); exact gv (by simp [go_sem, a.e 240 (i 10 rfl), a.e 243 (i 13 rfl), de_, hs_.2.1]) rfl),
  fun f s W g i j l m a => opk (c := false) rfl rfl (fun _ => by simp [go_sem, a.e 237 (i 7 rfl), a.e 244 (i 14 rfl)]) (fun h => absurd h (by decide)),
  fun f s W g i j l m a => opv rfl rfl (by simp [go_sem, a.e 245 (i 15 rfl)]) rfl,
  fun f s W g i j l m a => osure rfl rfl (a.says (d := 246) rfl rfl (i 16 rfl)) (gv (by simp [go_sem, a.e 22 k80_22]) rfl),
  fun f s W g i j l m a => osure rfl rfl (a.says (d := 246) rfl rfl (i 16 rfl)) (gv (by simp [go_sem, a.e 247 (i 17 rfl)]) rfl),
  fun f s W g i j l m a => osure rfl rfl (a.says (d := 246) rfl rfl (i 16 rfl)) (gv (by simp [go_sem, a.e 248 (i 18 rfl), cb b80_3 g 0]) rfl),
  fun f s W g i j l m a => osure rfl rfl (a.says (d := 246) rfl rfl (i 16 rfl)) (by have de_ : (decide (((mo 0 k).1) < 50)) = false := decide_eq_false (by have := hml k (by omega); omega); exact gv (by simp [go_sem, a.e 249 (i 19 rfl), de_, hs_.2.1]) rfl),
  fun f s W g i j l m a => opk (c := false) rfl rfl (fun _ => by simp [go_sem, a.e 246 (i 16 rfl), a.e 250 (i 20 rfl)]) (fun h => absurd h (by decide)), trivial⟩ ?_
  intro f81 s81 W81 hB81 g81 hg81
  have fB81 := hB81.f fB80
  have z81 := hB81.below.size
  have fA81 := hB81.f fA80
  have b81_2 := hB81.b b80_2
  have b81_3 := hB81.b b80_3
  have b81_4 := hB81.b b80_4
  have b81_5 := hB81.b b80_5
  refine hK77 _ _ ?_
  have k81_6 := kt hg81 6 k80_6
  have k81_8 := kt hg81 8 k80_8
  have k81_14 := kt hg81 14 k80_14
  have k81_16 := kt hg81 16 k80_16
  have k81_18 := kt hg81 18 k80_18
  have k81_19 := kt hg81 19 k80_19
  have k81_251 := kt hg81 251 (hB81.is 21)
  refine wp_cond_false ((fr_eval rfl).trans k81_251) ?_
  refine wp_skip ?_
  refine inBlock_normal ?_
  refine hK47 _ _ ?_
  refine region_dk 3 [(143, 0), (144, 1), (19, 2)] [[], [0], [0, 1]] (rel [is (.int .i64 ((k : Int))),
   is (.int .i64 ((k : Int) + 1)),
   is (.int .i64 ((k : Int) + 1))])
   ⟨is_k, is_k, is_k, trivial⟩
   ⟨fun f s W g i j l m a => opv rfl rfl (by simp [go_sem, a.e 19 ((l 2 19 rfl rfl).trans k81_19)]) rfl,
  fun f s W g i j l m a => opv rfl rfl (by simp [go_sem, a.e 143 (i 0 rfl), IntWalk.i64_in ((k : Int) + 1) (by omega)]) rfl,
  fun f s W g i j l m a => opv rfl rfl (by simp [go_sem, a.e 144 (i 1 rfl)]) rfl, trivial⟩ ?_
  intro f82 s82 W82 hB82 g82 hg82
  have fB82 := hB82.f fB81
  have z82 := hB82.below.size
  have fA82 := hB82.f fA81
  have b82_2 := hB82.b b81_2
  have b82_3 := hB82.b b81_3
  have b82_4 := hB82.b b81_4
  have b82_5 := hB82.b b81_5
  refine wpOps_end ?_
  have k82_6 := kt hg82 6 k81_6
  have k82_8 := kt hg82 8 k81_8
  have k82_14 := kt hg82 14 k81_14
  have k82_16 := kt hg82 16 k81_16
  have k82_18 := kt hg82 18 k81_18
  have k82_19 := kt hg82 19 (hB82.is 2)
  refine then_normal ?_
  exact ⟨_, by omega, g82, rfl, k + 1, rfl, k82_6, k82_8, k82_14, k82_16, k82_18, k82_19.trans (by go_num), fB82, (by omega), fA82, b82_2, (by omega)⟩
 ·
  have hc46' := hc46; try simp only [ba] at hc46'
  have hkn : k = 4 := by omega
  refine wp_exit ?_
  refine then_exit ?_
  refine then_exit ?_
  refine inBlock_at ?_
  refine hK42 _ _ ?_
  refine wp_seq_k fun K79 hK79 => ?_
  refine region_dk 5 [(252, 0), (253, 1), (254, 2), (255, 3), (6, 4)] [[], [0], [0, 1], [0, 1, 2], [0, 1, 2, 3]] (rel [is (.bool true),
   is (.bool true),
   is (.bool true),
   is (.bool true),
   is (.bool true)])
   ⟨is_k, is_k, is_k, is_k, is_k, trivial⟩
   ⟨fun f s W g i j l m a => opc rfl rfl (by simp [go_sem]) (armFlow_yes W),
  fun f s W g i j l m a => opv rfl rfl (by simp [go_sem, a.e 252 (i 0 rfl)]) rfl,
  fun f s W g i j l m a => osure rfl rfl (a.says (d := 253) rfl rfl (i 1 rfl)) (gc (by simp [go_sem]) (armDamp_yes W)),
  fun f s W g i j l m a => opk (c := true) rfl rfl (fun h => absurd h (by decide)) (fun _ => by simp [go_sem, a.e 253 (i 1 rfl), a.e 254 (i 2 rfl)]),
  fun f s W g i j l m a => opv rfl rfl (by simp [go_sem, a.e 255 (i 3 rfl)]) rfl, trivial⟩ ?_
  intro f83 s83 W83 hB83 g83 hg83
  have fB83 := hB83.f fB61
  have z83 := hB83.below.size
  have fA83 := hB83.f fA61
  have b83_2 := hB83.b b61_2
  refine hK79 _ _ ?_
  have k83_6 := kt hg83 6 (hB83.is 4)
  refine wp_ret ?_
  refine leave_one (N := 256) (v := .bool true) (.inr rfl) Try.results3 rfl k83_6 ?_
  exact ⟨rfl, fB83⟩
end Go.Proofs.Ytcgccflcjejlhaa
