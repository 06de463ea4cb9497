/- Part of the proof: what the claim leans on. -/
import Derived.Test.YtnhipdbdolabkaaKAM
import Derived.Test.YtnhipdbdolabkaaKAH
import Derived.Test.YtnhipdbdolabkaaKAJ
import Derived.Test.YtnhipdbdolabkaaKAF
import Derived.Test.YtnhipdbdolabkaaKAG
import Derived.Test.YtnhipdbdolabkaaKAK
import Derived.Test.YtnhipdbdolabkaaKAA
import Derived.Test.YtnhipdbdolabkaaKAI
set_option linter.unusedSimpArgs false
set_option linter.unusedVariables false
namespace Go.Proofs.Ytnhipdbdolabkaa
open Go.RowKit
/-- The bytes of a box. -/
def fvS (sv : Nat → Int) (i : Nat) : Nat → Int
  | 18 => sv (7 * i + 0)
  | 19 => sv (7 * i + 1)
  | 20 => sv (7 * i + 2)
  | 21 => sv (7 * i + 3)
  | 22 => sv (7 * i + 4)
  | 23 => sv (7 * i + 5)
  | 24 => sv (7 * i + 6)
  | _ => 0
theorem fvS_bd {sv : Nat → Int} (g : ∀ k, 0 ≤ sv k ∧ sv k ≤ 255) (i : Nat) : ∀ k, 0 ≤ fvS sv i k ∧ fvS sv i k ≤ 255 := by
  intro k
  unfold fvS
  split <;> first | exact g _ | omega
theorem size_of {fv : Nat → Int} (gfv : ∀ k, 0 ≤ fv k ∧ fv k ≤ 255) : (1 ≤ acrossOf (boxB fv 100) ∧ acrossOf (boxB fv 100) ≤ 1700) ∧ (1 ≤ alongOf (boxB fv 100) ∧ alongOf (boxB fv 100) ≤ 900) := by
  have g18 := gfv 18; have g19 := gfv 19; have g20 := gfv 20; have g21 := gfv 21; have g22 := gfv 22; have g23 := gfv 23
  have e1 : ∀ m, acrossOf (boxB fv m) = fv 20 % 50 + ((60 + fv 18) + m) + ((50 + fv 19) + m) + ((60 + fv 18) + m) + ((50 + fv 19) + m) := fun _ => rfl
  have e2 : ∀ m, alongOf (boxB fv m) = max ((50 + fv 19) / 2 + fv 22 % 3) ((50 + fv 19) / 2 + fv 22 % 3) + ((40 + fv 21) + m) + max ((50 + fv 19) / 2 + fv 22 % 3) ((50 + fv 19) / 2 + fv 22 % 3 + fv 23 % 4) := fun _ => rfl
  rw [e1, e2]
  omega
/-- What pubBoxes leaves, box by box. -/
theorem boxes_ok {sv : Nat → Int} (gsv : ∀ k, 0 ≤ sv k ∧ sv k ≤ 255) (W : World) : Calls Try.prog 7 #[.agg #[.int .u8 (sv 0), .int .u8 (sv 1), .int .u8 (sv 2), .int .u8 (sv 3), .int .u8 (sv 4), .int .u8 (sv 5), .int .u8 (sv 6), .int .u8 (sv 7), .int .u8 (sv 8), .int .u8 (sv 9), .int .u8 (sv 10), .int .u8 (sv 11), .int .u8 (sv 12), .int .u8 (sv 13), .int .u8 (sv 14), .int .u8 (sv 15), .int .u8 (sv 16), .int .u8 (sv 17), .int .u8 (sv 18), .int .u8 (sv 19), .int .u8 (sv 20), .int .u8 (sv 21), .int .u8 (sv 22), .int .u8 (sv 23), .int .u8 (sv 24), .int .u8 (sv 25), .int .u8 (sv 26), .int .u8 (sv 27), .int .u8 (sv 28), .int .u8 (sv 29), .int .u8 (sv 30)]] W (fun e w' => ∃ v1 v2 v3, e = .returned (.tuple #[v1, v2, v3, .bool true]) ∧
    BxsO (fvS sv 0 20 % 50) (60 + fvS sv 0 18 + 100) (50 + fvS sv 0 19 + 100) (40 + fvS sv 0 21 + 100) ((50 + fvS sv 0 19) / 2 + fvS sv 0 22 % 3) ((50 + fvS sv 0 19) / 2 + fvS sv 0 22 % 3 + fvS sv 0 23 % 4) (fvS sv 0 24 % 21) (fvS sv 1 20 % 50) (60 + fvS sv 1 18 + 100) (50 + fvS sv 1 19 + 100) (40 + fvS sv 1 21 + 100) ((50 + fvS sv 1 19) / 2 + fvS sv 1 22 % 3) ((50 + fvS sv 1 19) / 2 + fvS sv 1 22 % 3 + fvS sv 1 23 % 4) (fvS sv 1 24 % 21) (fvS sv 2 20 % 50) (60 + fvS sv 2 18 + 100) (50 + fvS sv 2 19 + 100) (40 + fvS sv 2 21 + 100) ((50 + fvS sv 2 19) / 2 + fvS sv 2 22 % 3) ((50 + fvS sv 2 19) / 2 + fvS sv 2 22 % 3 + fvS sv 2 23 % 4) (fvS sv 2 24 % 21) v1 w' ∧ OwI 0 [acrossOf (boxB (fvS sv 0) 100), acrossOf (boxB (fvS sv 1) 100), acrossOf (boxB (fvS sv 2) 100)] 3 v2 w' ∧ OwI 0 [alongOf (boxB (fvS sv 0) 100), alongOf (boxB (fvS sv 1) 100), alongOf (boxB (fvS sv 2) 100)] 3 v3 w' ∧ Below W.heap.size W w') :=
  pubBoxes_any sv _ _ _ _ _ _ _ _ _ _ _ _ _ _ _ _ _ _ _ _ _
    (acrossOf (boxB (fvS sv 0) 100)) (alongOf (boxB (fvS sv 0) 100)) _ (acrossOf (boxB (fvS sv 1) 100)) (alongOf (boxB (fvS sv 1) 100)) _ (acrossOf (boxB (fvS sv 2) 100)) (alongOf (boxB (fvS sv 2) 100)) _ _ _ _ W (box_ok (fvS_bd gsv 0) (by decide)) (box_ok (fvS_bd gsv 1) (by decide)) (box_ok (fvS_bd gsv 2) (by decide))
    rfl (boxB_ok (fvS_bd gsv 0) (by decide)) rfl rfl rfl (by have := size_of (fvS_bd gsv 0); omega) (by have := size_of (fvS_bd gsv 0); omega) rfl (boxB_ok (fvS_bd gsv 1) (by decide)) rfl rfl rfl (by have := size_of (fvS_bd gsv 1); omega) (by have := size_of (fvS_bd gsv 1); omega) rfl (boxB_ok (fvS_bd gsv 2) (by decide)) rfl rfl rfl (by have := size_of (fvS_bd gsv 2); omega) (by have := size_of (fvS_bd gsv 2); omega)
end Go.Proofs.Ytnhipdbdolabkaa
namespace Go.Proofs.Ytnhipdbdolabkaa
open Go.RowKit
set_option maxRecDepth 100000 in
set_option maxHeartbeats 400000 in
theorem trSorted_yes (ax : Option Addr) (nx cx : Nat) (xs : List Int) (w : World) (hX : Ii w ax nx cx xs) (gnx : 1 ≤ nx ∧ nx ≤ 1000) (hsr : ∀ k, 0 < k → k < nx → elT xs (k - 1) ≤ elT xs k) :
  Calls Try.prog 53 #[.slice (ax) (nx) (cx)] w (fun e w' => e = .returned (.bool true) ∧ Below w.heap.size w w') := by
 obtain ⟨bz, oz, hX_⟩ := hX.open
 refine calls_fr Try.func53 Try.ntmps53 rfl rfl fun g hg => ?_
 have k0 : g 0 = .slice (ax) (nx) (cx) := hg 0
 clear hg
 have fB0 : Below w.heap.size w w := Below.refl _ _
 refine wp_seq_k fun K1 hK1 => ?_
 refine region_dk 1 [(2, 0)] [[]] (rel [is (.bool false)])
  ⟨is_k, trivial⟩
  ⟨fun f s W b c d i j a => opv rfl rfl (by simp [go_sem]) rfl, trivial⟩ ?_
 intro f1 s1 W1 hB1 g1 hg1
 have fB1 := hB1.f fB0
 have z1 := hB1.below.size
 refine hK1 _ _ ?_
 have k1_0 := kt hg1 0 k0
 have k1_2 := kt hg1 2 (hB1.is 0)
 refine wp_seq_k fun K2 hK2 => ?_
 refine wp_seq_k fun K3 hK3 => ?_
 refine region_dk 4 [(4, 0), (5, 1), (6, 2), (3, 3)] [[], [0], [0, 1], [0, 1, 2]] (rel [is (.slice (ax) (nx) (cx)),
   is (.int .i64 ((nx : Int))),
   is (.int .i64 ((nx : Int) - 1)),
   is (.int .i64 ((nx : Int) - 1))])
  ⟨is_k, is_k, is_k, is_k, trivial⟩
  ⟨fun f s W b c d i j a => opv rfl rfl (by simp [go_sem, a.e 0 k1_0]) rfl,
  fun f s W b c d i j a => opv rfl rfl (by simp [go_sem, a.e 4 (c 0 rfl)]) rfl,
  fun f s W b c d i j a => opv rfl rfl (by simp [go_sem, a.e 5 (c 1 rfl), IntWalk.i64_in ((nx : Int) - 1) (by omega)]) rfl,
  fun f s W b c d i j a => opv rfl rfl (by simp [go_sem, a.e 6 (c 2 rfl)]) rfl, trivial⟩ ?_
 intro f2 s2 W2 hB2 g2 hg2
 have fB2 := hB2.f fB1
 have z2 := hB2.below.size
 refine hK3 _ _ ?_
 have k2_0 := kt hg2 0 k1_0
 have k2_2 := kt hg2 2 k1_2
 have k2_3 := kt hg2 3 (hB2.is 3)
 refine wp_block ?_
 refine wp_loop_n (fun m_ a_ W_ => ∃ g_ : Nat → Value, a_ = fr 21 g_ ∧ (∃ k : Nat, m_ = k + 1 ∧ g_ 0 = .slice (ax) (nx) (cx) ∧ g_ 2 = .bool false ∧ g_ 3 = .int .i64 ((k : Int)) ∧ Below w.heap.size w W_ ∧ W2.heap.size ≤ W_.heap.size ∧ (k < nx))) ⟨_, g2, rfl, (nx - 1), rfl, k2_0, k2_2, k2_3.trans (by rw [show ((nx - 1 : Nat) : Int) = (nx : Int) - 1 from by omega]), fB2, Nat.le_refl _, (by omega)⟩ ?_
 rintro _ _ W_1 ⟨g_1, rfl, k, rfl, k_1_0, k_1_2, k_1_3, fB_1, z_1, lk0⟩
 refine wp_seq_k fun K4 hK4 => ?_
 refine wp_seq_k fun K5 hK5 => ?_
 refine region_dk 2 [(7, 0), (8, 1)] [[], [0]] (rel [is (.int .i64 ((k : Int))),
   is (.bool (decide (0 < (k : Int))))])
  ⟨is_k, is_k, trivial⟩
  ⟨fun f s W b c d i j a => opv rfl rfl (by simp [go_sem, a.e 3 k_1_3]) rfl,
  fun f s W b c d i j a => opv rfl rfl (by simp [go_sem, a.e 7 (c 0 rfl)]) rfl, trivial⟩ ?_
 intro f3 s3 W3 hB3 g3 hg3
 have fB3 := hB3.f fB_1
 have z3 := hB3.below.size
 refine hK5 _ _ ?_
 have k3_0 := kt hg3 0 k_1_0
 have k3_2 := kt hg3 2 k_1_2
 have k3_3 := kt hg3 3 k_1_3
 have k3_8 := kt hg3 8 (hB3.is 1)
 refine wp_cond_split (t := decide (0 < (k : Int))) ((fr_eval rfl).trans k3_8) (fun hc6 => ?_) (fun hc6 => ?_)
 ·
  have hc6' := hc6; try simp only [ba] at hc6'
  have hk0 : 0 < k := by omega
  refine wp_skip ?_
  refine hK4 _ _ ?_
  refine wp_seq_k fun K7 hK7 => ?_
  refine wp_block ?_
  refine wp_seq_k fun K8 hK8 => ?_
  refine region_dk 10 [(11, 0), (12, 1), (13, 2), (14, 3), (15, 4), (16, 5), (17, 6), (18, 7), (19, 8), (20, 9)] [[], [], [0, 1], [0, 1, 2], [], [], [5], [4, 5, 6], [4, 5, 6, 7], [0, 1, 2, 3, 4, 5, 6, 7, 8]] (rel [is (.slice (ax) (nx) (cx)),
   is (.int .i64 ((k : Int))),
   is (.pointer (some ⟨bz, oz + k, none⟩)),
   is (.int .i64 ((elT xs k))),
   is (.slice (ax) (nx) (cx)),
   is (.int .i64 ((k : Int))),
   is (.int .i64 (((k - 1 : Nat) : Int))),
   is (.pointer (some ⟨bz, oz + (k - 1), none⟩)),
   is (.int .i64 ((elT xs (k - 1)))),
   is (.bool false)])
   ⟨is_k, is_k, is_k, is_k, is_k, is_k, is_k, is_k, is_k, is_k, trivial⟩
   ⟨fun f s W b c d i j a => opv rfl rfl (by simp [go_sem, a.e 0 k3_0]) rfl,
  fun f s W b c d i j a => opv rfl rfl (by simp [go_sem, a.e 3 k3_3]) rfl,
  fun f s W b c d i j a => by have hab := (hX_ (by omega)).1; have li_ := Nat.not_le.2 (show k < nx by omega); have li2_ : ((k : Nat) : Int) < (nx : Int) := (by omega); exact opv rfl rfl (by simp [go_sem, a.e 11 (c 0 rfl), a.e 12 (c 1 rfl), hab, li_, li2_]) rfl,
  fun f s W b c d i j a => by have l := below_trans fB3 b; have cu_ := (hX_ (by omega)).2 W l k (by omega); exact opv rfl rfl (by simp [go_sem, a.e 13 (c 2 rfl), cu_]) rfl,
  fun f s W b c d i j a => opv rfl rfl (by simp [go_sem, a.e 0 k3_0]) rfl,
  fun f s W b c d i j a => opv rfl rfl (by simp [go_sem, a.e 3 k3_3]) rfl,
  fun f s W b c d i j a => by have rn_ : (k : Int) - 1 = ((k - 1 : Nat) : Int) := (by omega); have rm_ := IntWalk.i64_in ((k - 1 : Nat) : Int) (by omega); exact opv rfl rfl (by simp [go_sem, a.e 16 (c 5 rfl), IntWalk.i64_in ((k : Int) - 1) (by omega), rn_, rm_]) rfl,
  fun f s W b c d i j a => by have hab := (hX_ (by omega)).1; have li_ := Nat.not_le.2 (show (k - 1) < nx by omega); have li2_ : (((k - 1) : Nat) : Int) < (nx : Int) := (by omega); exact opv rfl rfl (by simp [go_sem, a.e 15 (c 4 rfl), a.e 17 (c 6 rfl), hab, li_, li2_]) rfl,
  fun f s W b c d i j a => by have l := below_trans fB3 b; have cu_ := (hX_ (by omega)).2 W l (k - 1) (by omega); exact opv rfl rfl (by simp [go_sem, a.e 18 (c 7 rfl), cu_]) rfl,
  fun f s W b c d i j a => opDo_call rfl rfl (by simp [go_sem, a.e 14 (c 3 rfl), a.e 19 (c 8 rfl)]) (Try.cmp_Less_int2 ((elT xs k)) ((elT xs (k - 1))) W) ((fun e W' h => by obtain ⟨h1, rfl⟩ := h; rw [decide_eq_false (by have := hsr k (by omega) (by omega); omega)] at h1; exact ⟨_, h1, Below.refl _ _, rfl⟩)), trivial⟩ ?_
  intro f4 s4 W4 hB4 g4 hg4
  have fB4 := hB4.f fB3
  have z4 := hB4.below.size
  refine hK8 _ _ ?_
  have k4_0 := kt hg4 0 k3_0
  have k4_2 := kt hg4 2 k3_2
  have k4_3 := kt hg4 3 k3_3
  have k4_20 := kt hg4 20 (hB4.is 9)
  refine wp_cond_false ((fr_eval rfl).trans k4_20) ?_
  refine wp_skip ?_
  refine inBlock_normal ?_
  refine hK7 _ _ ?_
  refine region_dk 3 [(9, 0), (10, 1), (3, 2)] [[], [0], [0, 1]] (rel [is (.int .i64 ((k : Int))),
   is (.int .i64 (((k - 1 : Nat) : Int))),
   is (.int .i64 (((k - 1 : Nat) : Int)))])
   ⟨is_k, is_k, is_k, trivial⟩
   ⟨fun f s W b c d i j a => opv rfl rfl (by simp [go_sem, a.e 3 ((i 2 3 rfl rfl).trans k4_3)]) rfl,
  fun f s W b c d i j a => by have rn_ : (k : Int) - 1 = ((k - 1 : Nat) : Int) := (by omega); have rm_ := IntWalk.i64_in ((k - 1 : Nat) : Int) (by omega); exact opv rfl rfl (by simp [go_sem, a.e 9 (c 0 rfl), IntWalk.i64_in ((k : Int) - 1) (by omega), rn_, rm_]) rfl,
  fun f s W b c d i j a => opv rfl rfl (by simp [go_sem, a.e 10 (c 1 rfl)]) rfl, trivial⟩ ?_
  intro f5 s5 W5 hB5 g5 hg5
  have fB5 := hB5.f fB4
  have z5 := hB5.below.size
  refine wpOps_end ?_
  have k5_0 := kt hg5 0 k4_0
  have k5_2 := kt hg5 2 k4_2
  have k5_3 := kt hg5 3 (hB5.is 2)
  refine then_normal ?_
  exact ⟨_, by omega, g5, rfl, (k - 1), rfl, k5_0, k5_2, k5_3, fB5, (by omega), (by omega)⟩
 ·
  have hc6' := hc6; try simp only [ba] at hc6'
  refine wp_exit ?_
  refine then_exit ?_
  refine then_exit ?_
  refine inBlock_at ?_
  refine hK2 _ _ ?_
  refine wp_seq_k fun K10 hK10 => ?_
  refine region_dk 1 [(2, 0)] [[]] (rel [is (.bool true)])
   ⟨is_k, trivial⟩
   ⟨fun f s W b c d i j a => opv rfl rfl (by simp [go_sem]) rfl, trivial⟩ ?_
  intro f6 s6 W6 hB6 g6 hg6
  have fB6 := hB6.f fB3
  have z6 := hB6.below.size
  refine hK10 _ _ ?_
  have k6_2 := kt hg6 2 (hB6.is 0)
  refine wp_ret ?_
  refine leave_one (N := 21) (v := .bool true) (.inr rfl) Try.results53 rfl k6_2 ?_
  exact ⟨rfl, fB6⟩
end Go.Proofs.Ytnhipdbdolabkaa
namespace Go.Proofs.Ytnhipdbdolabkaa
open Go.RowKit
theorem setCells_self {W : World} {b : Nat} {cs : Array Value} {T : TypeId} (h : W.heap[b]? = some (.cells cs T (0, 0))) : ∀ (vs : List Value) (o : Nat), (∀ j v, vs[j]? = some v → cs[o + j]? = some v) → W.setCells b o vs = W
  | [], _, _ => rfl
  | v :: vs, o, hv => by
    have hv0 : cs[o]? = some v := hv 0 v rfl
    have e : W.setCell ⟨b, o, none⟩ v = W := by
      rw [setCell_row h]
      have e2 : cs.setIfInBounds o v = cs := by
        apply Array.ext_getElem?
        intro k
        rw [Array.getElem?_setIfInBounds]
        split
        · rename_i hk; subst hk
          split
          · exact hv0.symm
          · rename_i hk; rw [Array.getElem?_eq_none (by omega)]
        · rfl
      rw [e2]
      exact setRow_self W _ _ _ _ h
    show (W.setCell ⟨b, o, none⟩ v).setCells b (o + 1) vs = W
    rw [e]
    exact setCells_self h vs (o + 1) fun j u hj => by
      have := hv (j + 1) u (by simpa using hj)
      rw [show o + (j + 1) = o + 1 + j by omega] at this
      exact this
theorem compact_asc {B g c : Nat} {L : List Int} {W : World} (h : OwnI B L g c W) (hn : 0 < L.length) (hm : L.length ≤ 1000) (hc : Lib.compact L = L) : Calls Try.prog 54 #[.slice (some ⟨g, 0, none⟩) L.length c] W (fun e w' => e = .returned (.slice (some ⟨g, 0, none⟩) L.length c) ∧ Below W.heap.size W w') := by
  have hcell := fun j (hj : j < L.length) => h.cell hj
  rcases h.2.2.2 with ⟨e, -⟩ | ⟨g', cap, cur, e, h5, h6, h7⟩
  · cases e
  · cases e
    refine (Try.slices_Compact_int_cells g 0 L.length c L W (Nat.le_refl _) (by omega) h7.1 (fun j hj => by rw [Nat.zero_add]; exact hcell j hj) (fun j _ => by simp [World.frozen?, h6])).mono fun e w' hp => ?_
    obtain ⟨e1, q, e2⟩ := hp
    rw [List.take_length, hc] at e1 e2
    refine ⟨e1, ?_⟩
    rw [setCells_self (W := W.drewN q) (b := g) (cs := cur) (T := 3) h6 _ 0 fun j v hj => ?_] at e2
    · subst e2
      exact ⟨rfl, rfl, rfl, Nat.le_refl _, fun _ _ => rfl⟩
    · rw [Nat.sub_self, List.replicate_zero, List.append_nil] at hj
      have hl : j < L.length := by
        rcases Nat.lt_or_ge j L.length with h' | h'
        · exact h'
        · rw [List.getElem?_eq_none (by simpa using h')] at hj; cases hj
      have h8 := (Joins.cell_of_block h6 j).symm.trans (hcell j hl)
      rw [Nat.zero_add, h8, ← hj, List.getElem?_map, List.getElem?_eq_getElem hl, List.getD_eq_getElem?_getD, List.getElem?_eq_getElem hl]
      rfl
theorem compact_ow {B g c nx : Nat} {xs : List Int} {W : World} (h : OwnI B xs g c W) (hn : xs.length = nx) (gn : 1 ≤ nx ∧ nx ≤ 1000) (hc : Lib.compact xs = xs) : Calls Try.prog 54 #[.slice (some ⟨g, 0, none⟩) nx c] W (fun e w' => ∃ v, e = .returned v ∧ OwI 0 xs nx v w' ∧ Below W.heap.size W w') := by
  subst hn
  exact (compact_asc h (by omega) (by omega) hc).mono fun e w' hp => ⟨_, hp.1, ⟨g, c, rfl, (h.below hp.2).low (Nat.zero_le _)⟩, hp.2⟩
theorem clone_own (ax : Option Addr) (nx cx : Nat) (xs : List Int) (w : World) (hX : Ii w ax nx cx xs) (gn : 1 ≤ nx ∧ nx ≤ 1000) : Calls Try.prog 55 #[.slice ax nx cx] w (fun e w' => ∃ v, e = .returned v ∧ OwI w.heap.size xs nx v w' ∧ Below w.heap.size w w') := by
  have hn : nx = xs.length := hX.1
  obtain ⟨b, o, rfl, hlt, hc⟩ := hX.at (by omega)
  refine (Try.slices_Clone_int b o nx cx xs w (by omega) (by omega) hc).mono fun e w' hp => ?_
  obtain ⟨v, e1, h2, -, h4⟩ := hp
  obtain ⟨g2, cap2, rfl⟩ := Joins.ownsRow_form h2 (by omega)
  refine ⟨_, e1, ⟨g2, cap2, rfl, own_ge h2 g2 rfl, own_lt' h2, ?_⟩, h4⟩
  subst hn
  rw [List.take_length] at h2
  exact h2
end Go.Proofs.Ytnhipdbdolabkaa
namespace Go.Proofs.Ytnhipdbdolabkaa
open Go.RowKit
set_option maxRecDepth 100000 in
set_option maxHeartbeats 400000 in
theorem knives_yes (ax : Option Addr) (nx cx : Nat) (xs : List Int) (w : World) (hX : Ii w ax nx cx xs) (gx3 : ∀ x ∈ xs, 0 ≤ x ∧ x ≤ 3000) (gnx : 1 ≤ nx ∧ nx ≤ 1000) (hsr : ∀ k, 0 < k → k < nx → elT xs (k - 1) ≤ elT xs k) (hcm : Lib.compact xs = xs) :
  Calls Try.prog 36 #[.slice (ax) (nx) (cx)] w (fun e w' => e = .returned (.bool true) ∧ Below w.heap.size w w') := by
 have hln : xs.length = nx := hX.1.symm
 refine calls_fr Try.func36 Try.ntmps36 rfl rfl fun g hg => ?_
 have k0 : g 0 = .slice (ax) (nx) (cx) := hg 0
 clear hg
 have fB0 : Below w.heap.size w w := Below.refl _ _
 refine wp_seq_k fun K1 hK1 => ?_
 refine region_dk 1 [(2, 0)] [[]] (rel [is (.bool false)])
  ⟨is_k, trivial⟩
  ⟨fun f s W b i j l m a => opv rfl rfl (by simp [go_sem]) rfl, trivial⟩ ?_
 intro f1 s1 W1 hB1 g1 hg1
 have fB1 := hB1.f fB0
 have z1 := hB1.below.size
 refine hK1 _ _ ?_
 have k1_0 := kt hg1 0 k0
 have k1_2 := kt hg1 2 (hB1.is 0)
 refine wp_seq_k fun K2 hK2 => ?_
 refine region_dk 16 [(3, 0), (4, 1), (5, 2), (6, 3), (7, 4), (8, 5), (9, 6), (10, 7), (11, 8), (12, 9), (13, 10), (14, 11), (15, 12), (16, 13), (17, 14), (2, 15)] [[], [0], [0, 1], [0, 1, 2], [0, 1, 2, 3], [0, 1, 2, 3, 4], [0, 1, 2, 3, 4, 5], [0, 1, 2, 3, 4, 5, 6], [0, 1, 2, 3, 4, 5, 6, 7], [0, 1, 2, 3, 4, 5, 6, 7, 8], [0, 1, 2, 3, 4, 5, 6, 7, 8, 9], [0, 1, 2, 3, 4, 5, 6], [0, 1, 2, 3, 4, 5, 6, 11], [0, 1, 2, 3, 4, 5, 6, 7, 8, 9, 10, 11, 12], [0, 1, 2, 3, 4, 5, 6, 7, 8, 9, 10, 11, 12, 13], [0, 1, 2, 3, 4, 5, 6, 7, 8, 9, 10, 11, 12, 13, 14]] (rel [is (.slice (ax) (nx) (cx)),
   is (.bool true),
   is (.bool true),
   is (.slice (ax) (nx) (cx)),
   is (.bool true),
   is (.bool true),
   is (.bool true),
   is (.slice (ax) (nx) (cx)),
   fun v s W => OwI (s 8) (xs) nx v W,
   ab fun v W => OwI 0 (xs) nx v W,
   is (.int .i64 ((nx : Int))),
   is (.slice (ax) (nx) (cx)),
   is (.int .i64 ((nx : Int))),
   is (.bool true),
   is (.bool true),
   is (.bool true)])
  ⟨is_k, is_k, is_k, is_k, is_k, is_k, is_k, is_k, ⟨fun v k W W' hb h => h.below hb, fun v s s' W e h => by have h' : OwI (s 8) (xs) nx v W := h; show OwI (s' 8) (xs) nx v W; rw [← e 8 (by simp)]; exact h'⟩, ab_k fun v W W' hb h => h.below hb, is_k, is_k, is_k, is_k, is_k, is_k, trivial⟩
  ⟨fun f s W b i j l m a => opv rfl rfl (by simp [go_sem, a.e 0 k1_0]) rfl,
  fun f s W b i j l m a => by have n := below_trans fB1 b; exact opDo_call rfl rfl (by simp [go_sem, a.e 3 (i 0 rfl)]) (tr_within_any (0) (3000) ax nx cx xs W (hX.below n (Nat.le_refl _))) ((fun e W' h => by have h1 := h.1; rw [tr_within_yes gx3] at h1; exact ⟨_, h1, h.2, rfl⟩)),
  fun f s W b i j l m a => opv rfl rfl (by simp [go_sem, a.e 4 (i 1 rfl)]) rfl,
  fun f s W b i j l m a => osure rfl rfl (a.says (d := 5) rfl rfl (i 2 rfl)) (gv (by simp [go_sem, a.e 0 k1_0]) rfl),
  fun f s W b i j l m a => osure rfl rfl (a.says (d := 5) rfl rfl (i 2 rfl)) (by have n := below_trans fB1 b; exact gc (by simp [go_sem, a.e 6 (i 3 rfl)]) (trSorted_yes ax nx cx xs W (hX.below n (Nat.le_refl _)) gnx hsr)),
  fun f s W b i j l m a => opk (c := true) rfl rfl (fun h => absurd h (by decide)) (fun _ => by simp [go_sem, a.e 5 (i 2 rfl), a.e 7 (i 4 rfl)]),
  fun f s W b i j l m a => opv rfl rfl (by simp [go_sem, a.e 8 (i 5 rfl)]) rfl,
  fun f s W b i j l m a => osure rfl rfl (a.says (d := 9) rfl rfl (i 6 rfl)) (gv (by simp [go_sem, a.e 0 k1_0]) rfl),
  fun f s W b i j l m a => osure rfl rfl (a.says (d := 9) rfl rfl (i 6 rfl)) (by have n := below_trans fB1 b; exact wp_called (by simp [go_sem, a.e 10 (i 7 rfl)]) (clone_own ax nx cx xs W (hX.below n (Nat.le_refl _)) gnx) (fun e W' h => by obtain ⟨v, e1, h1, h2⟩ := h; exact ⟨v, e1, h2, (show OwI (upd s 8 W.heap.size 8) (xs) nx v W' from by rw [upd_at]; exact h1)⟩)),
  fun f s W b i j l m a => osure rfl rfl (a.says (d := 9) rfl rfl (i 6 rfl)) (by obtain ⟨g1', c2', d8, q3'⟩ := (i 8 rfl); exact wp_called (by simp [go_sem, a.e 11 d8]) (compact_ow (c := c2') q3' hln gnx hcm) ((fun e W' h => by obtain ⟨v, e1, h1, h2⟩ := h; exact ⟨v, e1, h2, h1⟩))),
  fun f s W b i j l m a => osure rfl rfl (a.says (d := 9) rfl rfl (i 6 rfl)) (by obtain ⟨g4', c5', d9, q6'⟩ := (i 9 rfl); exact gv (by simp [go_sem, a.e 12 d9]) rfl),
  fun f s W b i j l m a => osure rfl rfl (a.says (d := 9) rfl rfl (i 6 rfl)) (gv (by simp [go_sem, a.e 0 k1_0]) rfl),
  fun f s W b i j l m a => osure rfl rfl (a.says (d := 9) rfl rfl (i 6 rfl)) (gv (by simp [go_sem, a.e 14 (i 11 rfl)]) rfl),
  fun f s W b i j l m a => osure rfl rfl (a.says (d := 9) rfl rfl (i 6 rfl)) (gv (by simp [go_sem, a.e 13 (i 10 rfl), a.e 15 (i 12 rfl)]) rfl),
  fun f s W b i j l m a => opk (c := true) rfl rfl (fun h => absurd h (by decide)) (fun _ => by simp [go_sem, a.e 9 (i 6 rfl), a.e 16 (i 13 rfl)]),
  fun f s W b i j l m a => opv rfl rfl (by simp [go_sem, a.e 17 (i 14 rfl)]) rfl, trivial⟩ ?_
 intro f2 s2 W2 hB2 g2 hg2
 have fB2 := hB2.f fB1
 have z2 := hB2.below.size
 refine hK2 _ _ ?_
 have k2_2 := kt hg2 2 (hB2.is 15)
 refine wp_ret ?_
 refine leave_one (N := 18) (v := .bool true) (.inr rfl) Try.results36 rfl k2_2 ?_
 exact ⟨rfl, fB2⟩
end Go.Proofs.Ytnhipdbdolabkaa
namespace Go.Proofs.Ytnhipdbdolabkaa
/-- By how much a knife is moved. -/
def mvF (a b : Int) : Int := max a b - min a b
/-- An alignment of the first knives of two lists, with its cost: a knife is moved, parked, or fetched. -/
inductive Al (f t : Nat → Int) : Nat → Nat → Int → Prop
  | nil : Al f t 0 0 0
  | del {i k : Nat} {c : Int} : Al f t i k c → Al f t (i + 1) k (c + 500)
  | ins {i k : Nat} {c : Int} : Al f t i k c → Al f t i (k + 1) (c + 500)
  | sub {i k : Nat} {c : Int} : Al f t i k c → Al f t (i + 1) (k + 1) (c + mvF (f i) (t k))
/-- The table of Change: a row out of the one before it. -/
def chR (f t : Nat → Int) (i : Nat) (pv : Nat → Int) : Nat → Int
  | 0 => ((i + 1 : Nat) : Int) * 500
  | k + 1 => min (min (pv k + mvF (f i) (t k)) (pv (k + 1) + 500)) (chR f t i pv k + 500)
def chT (f t : Nat → Int) : Nat → Nat → Int
  | 0 => fun k => (k : Int) * 500
  | i + 1 => chR f t i (chT f t i)
theorem chT_0 (f t : Nat → Int) (k : Nat) : chT f t 0 k = (k : Int) * 500 := rfl
theorem mvF_nn (a b : Int) : 0 ≤ mvF a b := by unfold mvF; omega
theorem mvF_self (a : Int) : mvF a a = 0 := by unfold mvF; omega
theorem mvF_symm (a b : Int) : mvF a b = mvF b a := by unfold mvF; omega
theorem mvF_trans (a b c : Int) : mvF a c ≤ mvF a b + mvF b c := by unfold mvF; omega
theorem Al.nn {f t : Nat → Int} {i k : Nat} {c : Int} (h : Al f t i k c) : 0 ≤ c := by
  induction h with
  | nil => omega
  | del _ ih => omega
  | ins _ ih => omega
  | @sub i k c _ ih => have := mvF_nn (f i) (t k); omega
theorem al_ins (f t : Nat → Int) : ∀ k : Nat, Al f t 0 k ((k : Int) * 500)
  | 0 => .nil
  | k + 1 => by have := Al.ins (al_ins f t k); rw [show (k : Int) * 500 + 500 = ((k + 1 : Nat) : Int) * 500 by omega] at this; exact this
theorem chT_al (f t : Nat → Int) : ∀ (i k : Nat), Al f t i k (chT f t i k)
  | 0, k => by rw [chT_0]; exact al_ins f t k
  | i + 1, 0 => by
    have h := Al.del (chT_al f t i 0)
    have e : chT f t i 0 + 500 = chT f t (i + 1) 0 := by
      cases i with
      | zero => rfl
      | succ i => show ((i + 1 : Nat) : Int) * 500 + 500 = ((i + 1 + 1 : Nat) : Int) * 500; omega
    rw [e] at h; exact h
  | i + 1, k + 1 => by
    have h1 := Al.sub (chT_al f t i k); have h2 := Al.del (chT_al f t i (k + 1)); have h3 := Al.ins (chT_al f t (i + 1) k)
    show Al f t (i + 1) (k + 1) (min (min (chT f t i k + mvF (f i) (t k)) (chT f t i (k + 1) + 500)) (chT f t (i + 1) k + 500))
    rcases Int.le_total (min (chT f t i k + mvF (f i) (t k)) (chT f t i (k + 1) + 500)) (chT f t (i + 1) k + 500) with h | h
    · rw [Int.min_eq_left h]
      rcases Int.le_total (chT f t i k + mvF (f i) (t k)) (chT f t i (k + 1) + 500) with k' | k'
      · rw [Int.min_eq_left k']; exact h1
      · rw [Int.min_eq_right k']; exact h2
    · rw [Int.min_eq_right h]; exact h3
theorem chT_le {f t : Nat → Int} {i k : Nat} {c : Int} (h : Al f t i k c) : chT f t i k ≤ c := by
  induction h with
  | nil => exact Int.le_refl _
  | @del i k c _ ih =>
    cases k with
    | zero =>
      cases i with
      | zero => have : chT f t 0 0 = 0 := rfl; show ((0 + 1 : Nat) : Int) * 500 ≤ _; omega
      | succ i => have : chT f t (i + 1) 0 = ((i + 1 : Nat) : Int) * 500 := rfl; show ((i + 1 + 1 : Nat) : Int) * 500 ≤ _; omega
    | succ k => show min (min _ (chT f t i (k + 1) + 500)) _ ≤ _; omega
  | @ins i k c _ ih =>
    cases i with
    | zero => rw [chT_0] at ih ⊢; omega
    | succ i => show min _ (chT f t (i + 1) k + 500) ≤ _; omega
  | @sub i k c _ ih => show min (min (chT f t i k + mvF (f i) (t k)) _) _ ≤ _; omega
theorem Al.symm {f t : Nat → Int} {i k : Nat} {c : Int} (h : Al f t i k c) : Al t f k i c := by
  induction h with
  | nil => exact .nil
  | del _ ih => exact .ins ih
  | ins _ ih => exact .del ih
  | @sub i k c _ ih => have := Al.sub ih; rw [mvF_symm] at this; exact this
theorem chT_symm (f t : Nat → Int) (i k : Nat) : chT f t i k = chT t f k i := Int.le_antisymm (chT_le (chT_al t f k i).symm) (chT_le (chT_al f t i k).symm)
theorem al_refl (f : Nat → Int) : ∀ i : Nat, Al f f i i 0
  | 0 => .nil
  | i + 1 => by have := Al.sub (al_refl f i); rw [mvF_self, Int.add_zero] at this; exact this
theorem chT_self (f : Nat → Int) (i : Nat) : chT f f i i = 0 := Int.le_antisymm (chT_le (al_refl f i)) (chT_al f f i i).nn
theorem al_trans {f g t : Nat → Int} {i j : Nat} {c : Int} (h : Al f g i j c) : ∀ {k : Nat} {d : Int}, Al g t j k d → ∃ e, e ≤ c + d ∧ Al f t i k e := by
  induction h with
  | nil =>
    intro k d hk
    exact ⟨(k : Int) * 500, by have := chT_le hk; rw [chT_0] at this; omega, al_ins f t k⟩
  | del _ ih => exact fun k => by obtain ⟨e, h1, h2⟩ := ih k; exact ⟨e + 500, by omega, .del h2⟩
  | @ins i j c h ih =>
    intro k d hk
    generalize hj : j + 1 = j' at hk
    revert hj
    induction hk with
    | nil => exact fun h => by omega
    | @del j2 k2 c2 hk2 _ =>
      intro h
      obtain rfl : j = j2 := by omega
      obtain ⟨e, h1, h2⟩ := ih hk2; exact ⟨e, by omega, h2⟩
    | ins _ ih2 => exact fun h => by obtain ⟨e, h1, h2⟩ := ih2 h; exact ⟨e + 500, by omega, .ins h2⟩
    | @sub j2 k2 c2 hk2 _ =>
      intro h
      obtain rfl : j = j2 := by omega
      obtain ⟨e, h1, h2⟩ := ih hk2; have := mvF_nn (g j) (t k2); exact ⟨e + 500, by omega, .ins h2⟩
  | @sub i j c h ih =>
    intro k d hk
    generalize hj : j + 1 = j' at hk
    revert hj
    induction hk with
    | nil => exact fun h => by omega
    | @del j2 k2 c2 hk2 _ =>
      intro h
      obtain rfl : j = j2 := by omega
      obtain ⟨e, h1, h2⟩ := ih hk2; have := mvF_nn (f i) (g j); exact ⟨e + 500, by omega, .del h2⟩
    | ins _ ih2 => exact fun h => by obtain ⟨e, h1, h2⟩ := ih2 h; exact ⟨e + 500, by omega, .ins h2⟩
    | @sub j2 k2 c2 hk2 _ =>
      intro h
      obtain rfl : j = j2 := by omega
      obtain ⟨e, h1, h2⟩ := ih hk2; have := mvF_trans (f i) (g j) (t k2); exact ⟨e + mvF (f i) (t k2), by omega, .sub h2⟩
theorem chT_trans (f g t : Nat → Int) (i j k : Nat) : chT f t i k ≤ chT f g i j + chT g t j k := by
  obtain ⟨e, h1, h2⟩ := al_trans (chT_al f g i j) (chT_al g t j k)
  exact Int.le_trans (chT_le h2) h1
/-- Of how many places the knives are where they were. -/
def likeF (f t : Nat → Int) : Nat → Int
  | 0 => 0
  | i + 1 => if f i = t i then likeF f t i + 1 else likeF f t i
theorem al_like (f t : Nat → Int) : ∀ i : Nat, Al f t i i (1000 * ((i : Int) - likeF f t i))
  | 0 => .nil
  | i + 1 => by
    have h := al_like f t i
    by_cases e : f i = t i
    · have h' := Al.sub h
      rw [e, mvF_self, Int.add_zero] at h'
      have e2 : likeF f t (i + 1) = likeF f t i + 1 := if_pos e
      rw [e2, show 1000 * (((i + 1 : Nat) : Int) - (likeF f t i + 1)) = 1000 * ((i : Int) - likeF f t i) by omega]
      exact h'
    · have e2 : likeF f t (i + 1) = likeF f t i := if_neg e
      have h' := Al.ins (Al.del h)
      rw [e2, show 1000 * (((i + 1 : Nat) : Int) - likeF f t i) = 1000 * ((i : Int) - likeF f t i) + 500 + 500 by omega]
      exact h'
theorem chT_like (f t : Nat → Int) (i : Nat) : chT f t i i ≤ 1000 * ((i : Int) - likeF f t i) := chT_le (al_like f t i)
theorem likeF_bd (f t : Nat → Int) : ∀ i : Nat, 0 ≤ likeF f t i ∧ likeF f t i ≤ (i : Int)
  | 0 => by show (0 : Int) ≤ 0 ∧ (0 : Int) ≤ ((0 : Nat) : Int); omega
  | i + 1 => by have := likeF_bd f t i; unfold likeF; split <;> omega
theorem chT_bd (f t : Nat → Int) (i k : Nat) : 0 ≤ chT f t i k ∧ chT f t i k ≤ ((i + k : Nat) : Int) * 500 := by
  refine ⟨(chT_al f t i k).nn, ?_⟩
  have h : ∀ i : Nat, Al f t i k (((i + k : Nat) : Int) * 500) := by
    intro i
    induction i with
    | zero => rw [Nat.zero_add]; exact al_ins f t k
    | succ i ih => have := Al.del ih; rw [show ((i + k : Nat) : Int) * 500 + 500 = ((i + 1 + k : Nat) : Int) * 500 by omega] at this; exact this
  exact chT_le (h i)
end Go.Proofs.Ytnhipdbdolabkaa
namespace Go.Proofs.Ytnhipdbdolabkaa
open Go.RowKit
/-- The box b holds n numbers, place by place f. -/
def TabC (T : TypeId) (n : Nat) (f : Nat → Int) (b : Nat) (W : World) : Prop := ∃ cs : Array Value, W.heap[b]? = some (.cells cs T (0, 0)) ∧ cs.size = n ∧ ∀ i, i < n → cs[i]? = some (.int .i64 (f i))
theorem TabC.below {T : TypeId} {n b : Nat} {f : Nat → Int} {W W' : World} (h : TabC T n f b W) (hb : Below W.heap.size W W') : TabC T n f b W' := by
  obtain ⟨cs, h1, h2, h3⟩ := h; exact ⟨cs, blk_below h1 hb, h2, h3⟩
theorem TabC.cell {T : TypeId} {n b : Nat} {f : Nat → Int} {W : World} (h : TabC T n f b W) {i : Nat} (hi : i < n) : W.cell? ⟨b, i, none⟩ = some (.int .i64 (f i)) := by
  obtain ⟨cs, h1, h2, h3⟩ := h
  exact (Joins.cell_of_block h1 i).trans (h3 i hi)
/-- A number is stored at place i. -/
theorem storeT_tail {P : Program} {w W : World} {T ty : TypeId} {n b : Nat} {f : Nat → Int} {i : Nat} {x : Int} (hi : i < n) (hB : Below w.heap.size w W) (h : TabC T n f b W) (hb : w.heap.size ≤ b) (hs : (P.info? ty).map (·.size) = some 1) :
    ∃ W', (∀ (a : Act) (dst : Option Nat) (tt : TypeId) (p y : Operand) (pos : String) (af : Array Edge) (gd : Option (Nat × Bool)), a.eval p = .pointer (some ⟨b, i, none⟩) → a.eval y = .int .i64 x → (execOp a.eval { dst := dst, op := .store ty p y, type := tt, pos := pos, after := af, guard := gd }).run P W = .ok .skip W') ∧
      TabC T n (upd f i x) b W' ∧ (∀ k y, k ≠ b → W.heap[k]? = some y → W'.heap[k]? = some y) ∧ W.heap.size ≤ W'.heap.size ∧ Below w.heap.size w W' := by
  obtain ⟨cs, h1, h2, h3⟩ := h
  obtain ⟨fB, nb, ot, z⟩ := seg_facts (W' := W.setRow b (cs.toList.take i ++ #[Value.int .i64 x].toList ++ cs.toList.drop (i + 1)).toArray) rfl hB h1 hb
  refine ⟨_, fun a dst tt p y pos af gd hp hy => run_seg (v := .int .i64 x) rfl hp hy h1 hs (decide_eq_true (by show i + 1 ≤ cs.size; omega)) rfl rfl, ⟨_, nb, ?_, fun j hj => ?_⟩, ot, z, fB⟩
  · simp; omega
  · have hl : (cs.toList.take i).length = i := by simp; omega
    have hg : (cs.toList.take i ++ #[Value.int .i64 x].toList ++ cs.toList.drop (i + 1)).toArray[j]? = (cs.toList.take i ++ [Value.int .i64 x] ++ cs.toList.drop (i + 1))[j]? := by simp
    rw [hg]
    rcases Nat.lt_trichotomy j i with h' | h' | h'
    · rw [List.append_assoc, List.getElem?_append_left (by omega), List.getElem?_take_of_lt h', upd_other _ _ (by omega)]
      have := h3 j hj
      simpa using this
    · subst h'
      rw [List.append_assoc, List.getElem?_append_right (by omega), hl, Nat.sub_self, upd_same]
      rfl
    · rw [List.append_assoc, List.getElem?_append_right (by omega), hl, upd_other _ _ (by omega)]
      obtain ⟨q, rfl⟩ : ∃ q, j = i + 1 + q := ⟨j - (i + 1), by omega⟩
      rw [show i + 1 + q - i = q + 1 by omega, List.singleton_append, List.getElem?_cons_succ, List.getElem?_drop]
      have := h3 (i + 1 + q) hj
      simpa using this
end Go.Proofs.Ytnhipdbdolabkaa
