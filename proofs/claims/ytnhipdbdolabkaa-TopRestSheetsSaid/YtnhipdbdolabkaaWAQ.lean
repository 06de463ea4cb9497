/- Part of the proof: what the claim leans on. -/
import Derived.Test.YtnhipdbdolabkaaWAP
import Derived.Test.YtnhipdbdolabkaaWAG
set_option linter.unusedSimpArgs false
set_option linter.unusedVariables false
namespace Go.Proofs.Ytnhipdbdolabkaa
open Go.RowKit
theorem infoO : (Try.prog.info? 72).map (fun i => (i.zero, i.size, i.bytes)) = some (some (.agg #[.int .i64 0, .int .i64 0, .int .i64 0]), 3, 24) := by kernel_rfl
theorem ownR_empty {W : World} {T : TypeId} {z B b : Nat} (h : W.heap[b]? = some (.cells #[] T (0, 0))) (hB : B ≤ b) : OwnR T z B 0 [] b 0 W :=
  ⟨hB, lt_of_blk h, by simp, .inr ⟨b, 0, #[], rfl, hB, h, Nat.le_refl _, by unfold maxLen; omega, by simp, by simp⟩⟩
theorem take_seg {cur cs vs : List Value} {k o : Nat} (h : cur.take k = cs) (hk : k ≤ cur.length) (ho : o + vs.length ≤ k) : (cur.take o ++ vs ++ cur.drop (o + vs.length)).take k = cs.take o ++ vs ++ cs.drop (o + vs.length) := by
  subst h
  have h1 : (cur.take o ++ vs).length = o + vs.length := by simp; omega
  rw [List.take_append, h1, List.take_of_length_le (by rw [h1]; omega), List.take_take, Nat.min_eq_left (by omega), List.drop_take]
/-- A struct, or a part of one, is stored into a row of one's own. -/
theorem storeR_tail {w W : World} {T ty : TypeId} {z B n g c o : Nat} {cs : List Value} {v : Value} (ds : List Value) (hB : Below w.heap.size w W) (hB0 : w.heap.size ≤ B) (hown : OwnR T z B n cs g c W) (hi : (Try.prog.info? ty).map (·.size) = some v.cells.size) (hl : o + v.cells.size ≤ n * z) (h1 : v.cells.toList.all (·.oneCell') = true) (hd : cs.take o ++ v.cells.toList ++ cs.drop (o + v.cells.size) = ds) (hdl : ds.length = cs.length) :
    ∃ W', (∀ {a : Act} {dst : Option Nat} {tt : TypeId} {X Y : Operand} {pos : String} {af : Array Edge} {gd : Option (Nat × Bool)}, a.eval X = .pointer (some ⟨g, o, none⟩) → a.eval Y = v → (execOp a.eval { dst := dst, op := .store ty X Y, type := tt, pos := pos, after := af, guard := gd }).run Try.prog W = .ok .skip W') ∧
      OwnR T z B n ds g c W' ∧ (∀ k y, k ≠ g → W.heap[k]? = some y → W'.heap[k]? = some y) ∧ W.heap.size ≤ W'.heap.size ∧ Below w.heap.size w W' := by
  obtain ⟨hg, hlt, hlen, hr⟩ := hown
  rcases hr with ⟨h, -⟩ | ⟨g', cap, cur, e, hb1, h2, h3, h4, h5, h6⟩
  · cases h
  · cases e
    have hcap : n * z ≤ c * z := Nat.mul_le_mul_right _ h3
    have hlt' : n * z ≤ cur.toList.length := by simp; omega
    refine ⟨W.setRow g (cur.toList.take o ++ v.cells.toList ++ cur.toList.drop (o + v.cells.size)).toArray, fun hX hY => run_seg rfl hX hY h2 hi (decide_eq_true (by omega)) h1 rfl, ⟨hg, by rw [setRow_size]; exact hlt, hdl.trans hlen, .inr ⟨g, _, _, rfl, hb1, setRow_heap W g cur _ _ (0, 0) h2, h3, h4, ?_, ?_⟩⟩, fun k y hk hy => by rw [setRow_other W g k _ hk]; exact hy, by rw [setRow_size]; exact Nat.le_refl _, ?_⟩
    · have := Array.length_toList (xs := v.cells)
      simp; omega
    · rw [List.toList_toArray, ← Array.length_toList (xs := v.cells)]
      rw [← Array.length_toList (xs := v.cells)] at hd hl
      rw [take_seg h6 hlt' hl]; exact hd
    · exact (seg_facts (W' := W.setRow g _) rfl hB h2 (Nat.le_trans hB0 hg)).1
theorem OwnR.ordR {B g c : Nat} {os : Nat → To} {W : World} {cs : List Value} (h : OwnR 72 3 B 3 cs g c W) (hc : ∀ i, i < 3 → cs[i * 3]? = some (.int .i64 (os i).wd) ∧ cs[i * 3 + 1]? = some (.int .i64 (os i).lo) ∧ cs[i * 3 + 2]? = some (.int .i64 (os i).hi)) : OrdR W g 0 3 os :=
  ⟨h.2.1, fun i hi => by rw [Nat.zero_add]; exact ⟨h.cell _ (hc i hi).1, h.cell _ (hc i hi).2.1, h.cell _ (hc i hi).2.2⟩⟩
/-- A copy of orders. -/
def IsOrd (n : Nat) (os : Nat → To) (v : Value) (W : World) : Prop := ∃ g c, v = .slice (some ⟨g, 0, none⟩) n c ∧ OrdR W g 0 n os
theorem IsOrd.below {n : Nat} {os : Nat → To} {v : Value} {W W' : World} (h : IsOrd n os v W) (hb : Below W.heap.size W W') : IsOrd n os v W' := by
  obtain ⟨g, c, e, h⟩ := h; exact ⟨g, c, e, h.below hb⟩
def orC (os : Nat → To) : Nat → List Value
  | 0 => []
  | n + 1 => orC os n ++ [.int .i64 (os n).wd, .int .i64 (os n).lo, .int .i64 (os n).hi]
theorem orC_len (os : Nat → To) : ∀ n, (orC os n).length = n * 3
  | 0 => rfl
  | n + 1 => by rw [orC, List.length_append, orC_len os n]; show n * 3 + 3 = _; omega
theorem orC_at (os : Nat → To) : ∀ (n i : Nat), i < n → (orC os n)[i * 3]? = some (.int .i64 (os i).wd) ∧ (orC os n)[i * 3 + 1]? = some (.int .i64 (os i).lo) ∧ (orC os n)[i * 3 + 2]? = some (.int .i64 (os i).hi)
  | 0, _, h => absurd h (Nat.not_lt_zero _)
  | n + 1, i, h => by
    have hl := orC_len os n
    rw [orC]
    by_cases e : i = n
    · subst e
      rw [List.getElem?_append_right (by omega), List.getElem?_append_right (by omega), List.getElem?_append_right (by omega), hl, Nat.sub_self, Nat.add_sub_cancel_left, Nat.add_sub_cancel_left]
      exact ⟨rfl, rfl, rfl⟩
    · rw [List.getElem?_append_left (by omega), List.getElem?_append_left (by omega), List.getElem?_append_left (by omega)]
      exact orC_at os n i (by omega)
theorem OrdR.cells {W : World} {b o n : Nat} {os : Nat → To} (h : OrdR W b o n os) : ∀ j u, (orC os n)[j]? = some u → W.cell? ⟨b, o + j, none⟩ = some u := by
  intro j u hj
  have hlt : j < n * 3 := by
    rcases Nat.lt_or_ge j (n * 3) with h' | h'
    · exact h'
    · rw [List.getElem?_eq_none (by rw [orC_len]; exact h')] at hj; cases hj
  obtain ⟨i, r, hi, hr, rfl⟩ : ∃ i r, i < n ∧ r < 3 ∧ j = i * 3 + r := ⟨j / 3, j % 3, by omega, by omega, by omega⟩
  obtain ⟨h1, h2, h3⟩ := orC_at os n i hi
  obtain ⟨k1, k2, k3⟩ := h.2 i hi
  match r, hr with
  | 0, _ => rw [Nat.add_zero] at hj ⊢; rw [h1] at hj; cases hj; exact k1
  | 1, _ => rw [h2] at hj; cases hj; rw [← Nat.add_assoc]; exact k2
  | 2, _ => rw [h3] at hj; cases hj; rw [← Nat.add_assoc]; exact k3
theorem cloneO3 (ty : TypeId) {W : World} {b o n c g : Nat} {os : Nat → To} (h : OrdR W b o n os) (h0 : 0 < n) (hn : n ≤ 1000) :
    ∃ v' W', (Builtin.append_ #[36, 36] ty #[.slice (some ⟨g, 0, none⟩) 0 0, .slice (some ⟨b, o, none⟩) n c]).run Try.prog W = .ok v' W' ∧ Below W.heap.size W W' ∧ IsOrd n os v' W' := by
  obtain ⟨v, W', hr, hb', g', c', rfl, ho⟩ := cloneR_run 36 ty 72 3 24 (.agg #[.int .i64 0, .int .i64 0, .int .i64 0]) (by kernel_rfl) infoO rfl W g b o n c (orC os n) (orC_len os n) h0 h.cells (by omega)
  refine ⟨_, W', hr, hb', g', c', rfl, ho.2.1, fun i hi => ?_⟩
  obtain ⟨h1, h2, h3⟩ := orC_at os n i hi
  rw [Nat.zero_add]
  exact ⟨ho.cell _ h1, ho.cell _ h2, ho.cell _ h3⟩
set_option maxRecDepth 100000 in
set_option maxHeartbeats 400000 in
theorem pubOrders_any (os : Nat → To) (bo oo no co : Nat) (w : World) (hO : OrdR w bo oo no os) (h0 : 0 < no) (hn : no ≤ 1000) :
  Calls Try.prog 10 #[.slice (some ⟨bo, oo, none⟩) (no) (co)] w (fun e w' => ∃ v, e = .returned v ∧ IsOrd no os v w' ∧ Below w.heap.size w w') := by
 refine calls_fr Try.func10 Try.ntmps10 rfl rfl fun g hg => ?_
 have k0 : g 0 = .slice (some ⟨bo, oo, none⟩) (no) (co) := hg 0
 clear hg
 have fB0 : Below w.heap.size w w := Below.refl _ _
 refine wp_seq_k fun K1 hK1 => ?_
 refine region_dk 1 [(2, 0)] [[]] (rel [is (.slice (none) (0) (0))])
  ⟨is_k, trivial⟩
  ⟨fun f s W b c d i j a => opv rfl rfl (by simp [go_sem]) rfl, trivial⟩ ?_
 intro f1 s1 W1 hB1 g1 hg1
 have fB1 := hB1.f fB0
 have z1 := hB1.below.size
 refine hK1 _ _ ?_
 have k1_0 := kt hg1 0 k0
 have k1_2 := kt hg1 2 (hB1.is 0)
 refine wp_seq_k fun K2 hK2 => ?_
 refine region_dk 4 [(3, 0), (4, 1), (5, 2), (2, 3)] [[], [], [0, 1], [0, 1, 2]] (rel [row 0 0 #[] 72,
   is (.slice (some ⟨bo, oo, none⟩) (no) (co)),
   ab fun v W => IsOrd no os v W,
   ab fun v W => IsOrd no os v W])
  ⟨row_k, is_k, ab_k fun v W W' hb h => (h.below hb), ab_k fun v W W' hb h => (h.below hb), trivial⟩
  ⟨fun f s W b c d i j a => opr rfl rfl (by simp [go_sem]),
  fun f s W b c d i j a => opv rfl rfl (by simp [go_sem, a.e 0 k1_0]) rfl,
  fun f s W b c d i j a => by have k := below_trans fB1 b; obtain ⟨v_, W_, r_, b_, i_⟩ := cloneO3 36 (hO.below k) h0 hn; exact opDo_value rfl rfl (run_appendOp (a.v 3 (c 0 rfl).1) (a.v 4 (c 1 rfl)) r_) b_ i_,
  fun f s W b c d i j a => opv (v := (f 2)) rfl rfl (by simp [go_sem, (a.at' 5 rfl : j.tmps[5]?.getD undef = f 2)] <;> rfl) (c 2 rfl), trivial⟩ ?_
 intro f2 s2 W2 hB2 g2 hg2
 have fB2 := hB2.f fB1
 have z2 := hB2.below.size
 obtain ⟨r2_0, br2_0⟩ := hB2.is 0
 have lr2_0 := hB2.lr 0 br2_0
 obtain ⟨g4', c5', r2_3, q6'⟩ := hB2.is 3
 refine hK2 _ _ ?_
 have k2_2 := kt hg2 2 r2_3
 refine wp_ret ?_
 refine leave_one (N := 6) (v := .slice (some ⟨g4', 0, none⟩) (no) (c5')) (.inr rfl) Try.results10 rfl k2_2 ?_
 exact ⟨_, rfl, ⟨_, _, rfl, q6'⟩, fB2⟩
set_option maxRecDepth 100000 in
set_option maxHeartbeats 8000000 in
theorem pubPlan_any (n c bq oq : Nat) (al : Option Addr) (xs : Nat → List Int × Int) (ad : Nat → Option Addr) (cp : Nat → Nat) (w : World) (hal : 0 < n → al = some ⟨bq, oq, none⟩) (hS : SuR w bq oq n xs ad cp) (hn : n ≤ 1000) (hxl : ∀ j, j < n → 1 ≤ (xs j).1.length ∧ (xs j).1.length ≤ 1000) :
  Calls Try.prog 22 #[.slice (al) (n) (c)] w (fun e w' => ∃ v, e = .returned v ∧ IsPlan n xs v w' ∧ Below w.heap.size w w') := by
 refine calls_fr Try.func22 Try.ntmps22 rfl rfl fun g hg => ?_
 have k0 : g 0 = .slice (al) (n) (c) := hg 0
 clear hg
 have fB0 : Below w.heap.size w w := Below.refl _ _
 refine wp_seq_k fun K1 hK1 => ?_
 refine region_dk 1 [(2, 0)] [[]] (rel [is (.slice (none) (0) (0))])
  ⟨is_k, trivial⟩
  ⟨fun f s W d i l m p a => opv rfl rfl (by simp [go_sem]) rfl, trivial⟩ ?_
 intro f1 s1 W1 hB1 g1 hg1
 have fB1 := hB1.f fB0
 have z1 := hB1.below.size
 refine hK1 _ _ ?_
 have k1_0 := kt hg1 0 k0
 have k1_2 := kt hg1 2 (hB1.is 0)
 refine wp_seq_k fun K2 hK2 => ?_
 refine region_dk 2 [(5, 0), (3, 1)] [[], [0]] (rel [row 0 0 #[] 70,
   isS fun s => .slice (some ⟨(s 0), 0, none⟩) (0) (0)])
  ⟨row_k, isS_k fun s s' e => by rw [e 0 (by simp)], trivial⟩
  ⟨fun f s W d i l m p a => opr rfl rfl (by simp [go_sem]),
  fun f s W d i l m p a => opv rfl rfl (by simp [go_sem, a.e 5 (i 0 rfl).1, upd]) rfl, trivial⟩ ?_
 intro f2 s2 W2 hB2 g2 hg2
 have fB2 := hB2.f fB1
 have z2 := hB2.below.size
 obtain ⟨r2_0, br2_0⟩ := hB2.is 0
 have lr2_0 := hB2.lr 0 br2_0
 refine hK2 _ _ ?_
 have k2_0 := kt hg2 0 k1_0
 have k2_2 := kt hg2 2 k1_2
 have k2_3 := kt hg2 3 (hB2.is 1)
 obtain ⟨b0, hb0⟩ : ∃ b, (s2 0) = b := ⟨_, rfl⟩
 have on0 : OwnN 70 2 w.heap.size 0 [] (some ⟨b0, 0, none⟩) 0 W2 := .inr ⟨b0, rfl, ownR_empty (hb0 ▸ br2_0) (by rw [← hb0]; omega)⟩
 have su0 : SuC w.heap.size W2 xs 0 [] := ⟨rfl, fun j hj => absurd hj (Nat.not_lt_zero _)⟩
 have k3_ : g2 3 = .slice (some ⟨b0, 0, none⟩) 0 0 := hb0 ▸ k2_3
 refine wp_seq_k fun K3 hK3 => ?_
 refine wp_seq_k fun K4 hK4 => ?_
 refine region_dk 1 [(4, 0)] [[]] (rel [is (.int .i64 0)])
  ⟨is_k, trivial⟩
  ⟨fun f s W d i l m p a => opv rfl rfl (by simp [go_sem]) rfl, trivial⟩ ?_
 intro f3 s3 W3 hB3 g3 hg3
 have fB3 := hB3.f fB2
 have z3 := hB3.below.size
 have q7' := (on0.below hB3.below)
 have q8' := (su0.below hB3.below)
 refine hK4 _ _ ?_
 have k3_0 := kt hg3 0 k2_0
 have k3_2 := kt hg3 2 k2_2
 have k3_3 := kt hg3 3 k3_
 have k3_4 := kt hg3 4 (hB3.is 0)
 refine wp_block ?_
 refine wp_loop_n (fun m_ a_ W_ => ∃ g_ : Nat → Value, a_ = fr 28 g_ ∧ (∃ k : Nat, ∃ aq : Option Addr, ∃ cq : Nat, ∃ cs : List Value, m_ = n - k ∧ g_ 0 = .slice (al) (n) (c) ∧ g_ 2 = .slice (none) (0) (0) ∧ g_ 4 = .int .i64 ((k : Int)) ∧ g_ 3 = .slice (aq) (k) (cq) ∧ Below w.heap.size w W_ ∧ W3.heap.size ≤ W_.heap.size ∧ OwnN 70 2 w.heap.size k cs aq cq W_ ∧ SuC w.heap.size W_ xs k cs ∧ (k ≤ n))) ⟨_, g3, rfl, 0, (some ⟨b0, 0, none⟩), 0, [], rfl, k3_0, k3_2, k3_4.trans (by rfl), k3_3.trans (by rfl), fB3, Nat.le_refl _, q7', q8', (by omega)⟩ ?_
 rintro _ _ W_9 ⟨g_9, rfl, k, aq, cq, cs, rfl, k_9_0, k_9_2, k_9_4, k_9_3, fB_9, z_9, q10', q11', lk0⟩
 refine wp_seq_k fun K5 hK5 => ?_
 refine wp_seq_k fun K6 hK6 => ?_
 refine region_dk 4 [(6, 0), (7, 1), (8, 2), (9, 3)] [[], [], [1], [0, 1, 2]] (rel [is (.int .i64 ((k : Int))),
   is (.slice (al) (n) (c)),
   is (.int .i64 ((n : Int))),
   is (.bool (decide ((k : Int) < (n : Int))))])
  ⟨is_k, is_k, is_k, is_k, trivial⟩
  ⟨fun f s W d i l m p a => opv rfl rfl (by simp [go_sem, a.e 4 k_9_4]) rfl,
  fun f s W d i l m p a => opv rfl rfl (by simp [go_sem, a.e 0 k_9_0]) rfl,
  fun f s W d i l m p a => opv rfl rfl (by simp [go_sem, a.e 7 (i 1 rfl)]) rfl,
  fun f s W d i l m p a => opv rfl rfl (by simp [go_sem, a.e 6 (i 0 rfl), a.e 8 (i 2 rfl)]) rfl, trivial⟩ ?_
 intro f4 s4 W4 hB4 g4 hg4
 have fB4 := hB4.f fB_9
 have z4 := hB4.below.size
 have q12' := (q10'.below hB4.below)
 have q13' := (q11'.below hB4.below)
 refine hK6 _ _ ?_
 have k4_0 := kt hg4 0 k_9_0
 have k4_2 := kt hg4 2 k_9_2
 have k4_4 := kt hg4 4 k_9_4
 have k4_3 := kt hg4 3 k_9_3
 have k4_9 := kt hg4 9 (hB4.is 3)
 refine wp_cond_split (t := decide ((k : Int) < (n : Int))) ((fr_eval rfl).trans k4_9) (fun hc7 => ?_) (fun hc7 => ?_)
 ·
  have hc7' := hc7; try simp only [ba] at hc7'
  have hkn : k < n := by omega
  have limA := OwnN.lim q12'
  refine wp_skip ?_
  refine hK5 _ _ ?_
  refine wp_seq_k fun K8 hK8 => ?_
  refine wp_block ?_
  refine region_dk 14 [(12, 0), (13, 1), (14, 2), (15, 3), (16, 4), (17, 5), (18, 6), (19, 7), (20, 8), (21, 9), (22, 10), (23, 11), (24, 12), (25, 13), (26, 14), (3, 15)] [[], [], [], [1, 2], [1, 2, 3], [1, 2, 3, 4], [1, 2, 3, 4, 5], [], [], [7, 8], [7, 8, 9], [7, 8, 9, 10], [1, 2, 3, 4, 5, 6, 7, 8, 9, 10, 11], [1, 2, 3, 4, 5, 6, 7, 8, 9, 10, 11, 12], [0, 1, 2, 3, 4, 5, 6, 7, 8, 9, 10, 11, 12, 13], [0, 1, 2, 3, 4, 5, 6, 7, 8, 9, 10, 11, 12, 13, 14]] (rel [is (.slice (aq) (k) (cq)),
   is (.slice (al) (n) (c)),
   is (.int .i64 ((k : Int))),
   is (.pointer (some ⟨bq, oq + k * 2, none⟩)),
   is (.pointer (some ⟨bq, oq + k * 2, none⟩)),
   is (.slice ((ad k)) ((xs k).1.length) ((cp k))),
   ab fun v W => OwI w.heap.size (xs k).1 (xs k).1.length v W,
   is (.slice (al) (n) (c)),
   is (.int .i64 ((k : Int))),
   is (.pointer (some ⟨bq, oq + k * 2, none⟩)),
   is (.pointer (some ⟨bq, oq + k * 2 + 1, none⟩)),
   is (.int .i64 ((xs k).2)),
   ab fun v W => AgS w.heap.size (xs k) v W,
   ab fun v W => RwS w.heap.size (xs k) v W])
   ⟨is_k, is_k, is_k, is_k, is_k, is_k, ab_k fun v W W' hb h => h.below hb, is_k, is_k, is_k, is_k, is_k, ab_k fun v W W' hb h => h.below hb, ab_k fun v W W' hb h => h.below hb, trivial⟩
   ⟨fun f s W d i l m p a => opv rfl rfl (by simp [go_sem, a.e 3 ((m 15 3 rfl rfl).trans k4_3)]) rfl,
  fun f s W d i l m p a => opv rfl rfl (by simp [go_sem, a.e 0 k4_0]) rfl,
  fun f s W d i l m p a => opv rfl rfl (by simp [go_sem, a.e 4 k4_4]) rfl,
  fun f s W d i l m p a => by have hab := hal (by omega); have li_ := Nat.not_le.2 (show k < n by omega); have li2_ : (k : Int) < (n : Int) := (by omega); exact opv rfl rfl (by simp [go_sem, a.e 13 (i 1 rfl), a.e 14 (i 2 rfl), hab, li_, li2_]) rfl,
  fun f s W d i l m p a => opv rfl rfl (by simp [go_sem, a.e 15 (i 3 rfl)]) rfl,
  fun f s W d i l m p a => by have q := below_trans fB4 d; have cu_ := (hS.below q).2 k (by omega); have cu0_ := cu_.1; have cu1_ := cu_.2.1; exact opv rfl rfl (by simp [go_sem, a.e 16 (i 4 rfl), cu0_, cu1_]) rfl,
  fun f s W d i l m p a => by have q := below_trans fB4 d; exact opDo_call rfl rfl (by simp [go_sem, a.e 17 (i 5 rfl)]) (pubInts_own (ad k) (cp k) (xs k).1.length (xs k).1 W ((hS.below q).2 k (by omega)).2.2 (hxl k (by omega)).2 (hxl k (by omega)).1) ((fun e W' h => by obtain ⟨v, e1, ⟨g_, c_, e2, h1⟩, h2⟩ := h; exact ⟨v, e1, h2, ⟨g_, c_, e2, h1.low q.size⟩⟩)),
  fun f s W d i l m p a => opv rfl rfl (by simp [go_sem, a.e 0 k4_0]) rfl,
  fun f s W d i l m p a => opv rfl rfl (by simp [go_sem, a.e 4 k4_4]) rfl,
  fun f s W d i l m p a => by have hab := hal (by omega); have li_ := Nat.not_le.2 (show k < n by omega); have li2_ : (k : Int) < (n : Int) := (by omega); exact opv rfl rfl (by simp [go_sem, a.e 19 (i 7 rfl), a.e 20 (i 8 rfl), hab, li_, li2_]) rfl,
  fun f s W d i l m p a => opv rfl rfl (by simp [go_sem, a.e 21 (i 9 rfl)]) rfl,
  fun f s W d i l m p a => by have q := below_trans fB4 d; have cu_ := (hS.below q).2 k (by omega); have cu0_ := cu_.1; have cu1_ := cu_.2.1; exact opv rfl rfl (by simp [go_sem, a.e 22 (i 10 rfl), cu0_, cu1_]) rfl,
  fun f s W d i l m p a => by obtain ⟨g14', c15', d6, q16'⟩ := (i 6 rfl); exact opv (v := (.agg #[.slice (some ⟨g14', 0, none⟩) ((xs k).1.length) (c15'), .int .i64 ((xs k).2)])) rfl rfl (by simp [go_sem, a.e 18 d6, a.e 23 (i 11 rfl)]) ⟨_, _, rfl, q16'⟩,
  fun f s W d i l m p a => by obtain ⟨g17', c18', d12, q19'⟩ := (i 12 rfl); exact opDo_value (v := .slice (some ⟨W.heap.size, 0, none⟩) 1 1) rfl rfl (by simp [go_sem, a.e 24 d12]) (balloc1 _ _) ⟨_, _, _, rfl, blk_new rfl, q19'.below (balloc1 _ _)⟩, trivial⟩ ?_
  intro f5 s5 W5 hB5 g5 hg5
  have fB5 := hB5.f fB4
  have z5 := hB5.below.size
  have q20' := (q12'.below hB5.below)
  have q21' := (q13'.below hB5.below)
  obtain ⟨b22', g23', c24', r5_13, q25', q26'⟩ := hB5.is 13
  have k5_0 := kt hg5 0 k4_0
  have k5_2 := kt hg5 2 k4_2
  have k5_4 := kt hg5 4 k4_4
  have k5_12 := kt hg5 12 (hB5.is 0)
  have k5_25 := kt hg5 25 r5_13
  obtain ⟨ga6, ca6, W6, ra6, ow6, ot6, z6, gg6, fB6⟩ := growN_tail 37 37 70 2 32 _ (by kernel_rfl) infoS rfl (cs ++ [.slice (some ⟨g23', 0, none⟩) ((xs k).1.length) (c24'), .int .i64 ((xs k).2)]) (k + 1) (off := 0) (k := 1) (c' := 1) [.slice (some ⟨g23', 0, none⟩) ((xs k).1.length) (c24'), .int .i64 ((xs k).2)] fB5 q20' rfl rfl rfl rfl (cells_at q25') (by omega)
  have su6 := SuC.snoc q21' q20' ot6 z6 q26'
  refine tail_value2 (o := _) rfl rfl rfl (run_appendOp (fr_ev k5_12) (fr_ev k5_25) ra6) ?_
  have on6 : OwnN 70 2 w.heap.size (k + 1) (cs ++ [.slice (some ⟨g23', 0, none⟩) ((xs k).1.length) (c24'), .int .i64 ((xs k).2)]) (some ⟨ga6, 0, none⟩) ca6 W6 := .inr ⟨_, rfl, ow6⟩
  generalize hg6 : upd g5 26 (.slice (some ⟨ga6, 0, none⟩) ((k + 1)) (ca6)) = g6
  have k6_0 := ku hg6 0 k5_0
  have k6_2 := ku hg6 2 k5_2
  have k6_4 := ku hg6 4 k5_4
  have k6_26 := kt hg6 26 (upd_same _ _ _)
  refine tail_value (o := _) rfl rfl rfl (v := .slice (some ⟨ga6, 0, none⟩) ((k + 1)) (ca6)) (by simp [go_sem, frv 28 k6_26]) ?_
  generalize hg7 : upd g6 3 (.slice (some ⟨ga6, 0, none⟩) ((k + 1)) (ca6)) = g7
  have k7_0 := ku hg7 0 k6_0
  have k7_2 := ku hg7 2 k6_2
  have k7_4 := ku hg7 4 k6_4
  have k7_3 := kt hg7 3 (upd_same _ _ _)
  refine wpOps_end ?_
  refine inBlock_normal ?_
  refine hK8 _ _ ?_
  refine region_dk 3 [(10, 0), (11, 1), (4, 2)] [[], [0], [0, 1]] (rel [is (.int .i64 ((k : Int))),
   is (.int .i64 ((k : Int) + 1)),
   is (.int .i64 ((k : Int) + 1))])
   ⟨is_k, is_k, is_k, trivial⟩
   ⟨fun f s W d i l m p a => opv rfl rfl (by simp [go_sem, a.e 4 ((m 2 4 rfl rfl).trans k7_4)]) rfl,
  fun f s W d i l m p a => opv rfl rfl (by simp [go_sem, a.e 10 (i 0 rfl), IntWalk.i64_in ((k : Int) + 1) (by omega)]) rfl,
  fun f s W d i l m p a => opv rfl rfl (by simp [go_sem, a.e 11 (i 1 rfl)]) rfl, trivial⟩ ?_
  intro f8 s8 W8 hB8 g8 hg8
  have fB8 := hB8.f fB6
  have z8 := hB8.below.size
  have q27' := (on6.below hB8.below)
  have q28' := (su6.below hB8.below)
  refine wpOps_end ?_
  have k8_0 := kt hg8 0 k7_0
  have k8_2 := kt hg8 2 k7_2
  have k8_3 := kt hg8 3 k7_3
  have k8_4 := kt hg8 4 (hB8.is 2)
  refine then_normal ?_
  exact ⟨_, by omega, g8, rfl, k + 1, some ⟨ga6, 0, none⟩, ca6, (cs ++ [.slice (some ⟨g23', 0, none⟩) ((xs k).1.length) (c24'), .int .i64 ((xs k).2)]), rfl, k8_0, k8_2, k8_4.trans (by go_num), k8_3.trans (by go_num), fB8, (by omega), q27', q28', (by omega)⟩
 ·
  have hc7' := hc7; try simp only [ba] at hc7'
  have hkn : k = n := by omega
  refine wp_exit ?_
  refine then_exit ?_
  refine then_exit ?_
  refine inBlock_at ?_
  refine hK3 _ _ ?_
  refine wp_seq_k fun K9 hK9 => ?_
  refine region_dk 2 [(27, 0), (2, 1)] [[], [0]] (rel [is (.slice (aq) (k) (cq)),
   is (.slice (aq) (k) (cq))])
   ⟨is_k, is_k, trivial⟩
   ⟨fun f s W d i l m p a => opv rfl rfl (by simp [go_sem, a.e 3 k4_3]) rfl,
  fun f s W d i l m p a => opv rfl rfl (by simp [go_sem, a.e 27 (i 0 rfl)]) rfl, trivial⟩ ?_
  intro f9 s9 W9 hB9 g9 hg9
  have fB9 := hB9.f fB4
  have z9 := hB9.below.size
  have q29' := (q12'.below hB9.below)
  have q30' := (q13'.below hB9.below)
  refine hK9 _ _ ?_
  have k9_2 := kt hg9 2 (hB9.is 1)
  refine wp_ret ?_
  refine leave_one (N := 28) (v := .slice (aq) (k) (cq)) (.inr rfl) Try.results22 rfl k9_2 ?_
  have e_ : k = n := by omega
  subst e_
  exact ⟨_, rfl, SuC.plan q30' q29', fB9⟩
end Go.Proofs.Ytnhipdbdolabkaa
namespace Go.Proofs.Ytnhipdbdolabkaa
open Go.RowKit
/-- What holds in whatever world that keeps all blocks but those of the type T. -/
def StabT (P : World → Prop) (T : TypeId) (W : World) : Prop := ∀ W' : World, W.heap.size ≤ W'.heap.size → (∀ (k : Nat) (y : Obj), (∀ cs m, y ≠ .cells cs T m) → W.heap[k]? = some y → W'.heap[k]? = some y) → P W'
theorem StabT.here {P : World → Prop} {T : TypeId} {W : World} (h : StabT P T W) : P W := h W (Nat.le_refl _) fun _ _ _ h => h
theorem StabT.below {P : World → Prop} {T : TypeId} {W W' : World} (h : StabT P T W) (hb : Below W.heap.size W W') : StabT P T W' := fun W2 h1 h2 =>
  h W2 (Nat.le_trans hb.size h1) fun k y h3 h4 => h2 k y h3 (blk_below h4 hb)
theorem StabT.other {P : World → Prop} {T : TypeId} {W W' : World} {g : Nat} {cs : Array Value} {m : Nat × Nat} (h : StabT P T W) (hot : ∀ k y, k ≠ g → W.heap[k]? = some y → W'.heap[k]? = some y) (hb : W.heap[g]? = some (.cells cs T m)) (hz : W.heap.size ≤ W'.heap.size) : StabT P T W' := fun W2 h1 h2 =>
  h W2 (Nat.le_trans hz h1) fun k y h3 h4 => h2 k y h3 (hot k y (fun e => by subst e; rw [hb] at h4; exact h3 _ _ (Option.some.inj h4).symm) h4)
def IsOrdS (T : TypeId) (n : Nat) (os : Nat → To) (v : Value) (W : World) : Prop := ∃ g c, v = .slice (some ⟨g, 0, none⟩) n c ∧ StabT (fun W => OrdR W g 0 n os) T W
theorem IsOrdS.below {T : TypeId} {n : Nat} {os : Nat → To} {v : Value} {W W' : World} (h : IsOrdS T n os v W) (hb : Below W.heap.size W W') : IsOrdS T n os v W' := by
  obtain ⟨g, c, e, h⟩ := h; exact ⟨g, c, e, h.below hb⟩
def IsPlanS (T : TypeId) (n : Nat) (xs : Nat → List Int × Int) (v : Value) (W : World) : Prop := ∃ a c b o ad cp, v = .slice a n c ∧ n ≤ c ∧ (0 < n → a = some ⟨b, o, none⟩) ∧ StabT (fun W => SuR W b o n xs ad cp) T W
theorem IsPlanS.below {T : TypeId} {n : Nat} {xs : Nat → List Int × Int} {v : Value} {W W' : World} (h : IsPlanS T n xs v W) (hb : Below W.heap.size W W') : IsPlanS T n xs v W' := by
  obtain ⟨a, c, b, o, ad, cp, e, h1, h2, h3⟩ := h; exact ⟨a, c, b, o, ad, cp, e, h1, h2, h3.below hb⟩
theorem ownR_ty {T T' : TypeId} {z B n g c : Nat} {cs : List Value} {W : World} (h : OwnR T z B n cs g c W) (hT : (T' != T) = true) {cs' : Array Value} {m : Nat × Nat} (hx : W.heap[g]? = some (.cells cs' T' m)) : False := by
  have hT' : T' ≠ T := bne_iff_ne.1 hT
  rcases h.2.2.2 with ⟨e, -⟩ | ⟨g', cap, cur, e, -, h6, -⟩
  · cases e
  · cases e
    rw [h6] at hx
    have h7 := Option.some.inj hx
    injection h7 with h8 h9
    exact hT' h9.symm
theorem OwnR.ordS {B g c : Nat} {os : Nat → To} {W : World} {cs : List Value} (h : OwnR 72 3 B 3 cs g c W) (hc : ∀ i, i < 3 → cs[i * 3]? = some (.int .i64 (os i).wd) ∧ cs[i * 3 + 1]? = some (.int .i64 (os i).lo) ∧ cs[i * 3 + 2]? = some (.int .i64 (os i).hi)) : IsOrdS 35 3 os (.slice (some ⟨g, 0, none⟩) 3 c) W :=
  ⟨g, c, rfl, fun W2 h1 h2 => (h.same h1 fun x hx => h2 g x (fun cs m e => by subst e; exact ownR_ty h (by decide) hx) hx).ordR hc⟩
end Go.Proofs.Ytnhipdbdolabkaa
