/- Part of the proof: what the claim leans on. -/
import Derived.Test.YthnediamopehfaaWAR
set_option linter.unusedSimpArgs false
set_option linter.unusedVariables false
namespace Go.Proofs.Ythnediamopehfaa
open Go.RowKit
/-- What around leaves: the iterator, with what it has captured. -/
def AroundP (x0 x1 x2 x3 x4 x5 x6 : Value) (off least m : Int) (w : World) (e : Ending) (w' : World) : Prop :=
  ∃ B1 B2 B3, e = .returned (.func (.func 104) #[] #[.pointer (some ⟨B1, 0, none⟩), .pointer (some ⟨B2, 0, none⟩), .pointer (some ⟨B3, 0, none⟩)]) ∧
    (w'.heap[B1]? = some (.cells #[.int .i64 least] 3 (0, 0)) ∧ w'.heap[B2]? = some (.cells #[.int .i64 m] 3 (0, 0)) ∧ w'.heap[B3]? = some (.cells #[x0, x1, x2, x3, x4, x5, x6, .int .i64 off] 104 (0, 0))) ∧ Below w.heap.size w w'
set_option maxRecDepth 100000 in
set_option maxHeartbeats 400000 in
theorem around_any (x0 x1 x2 x3 x4 x5 x6 : Value) (off least m : Int) (w : World) :
  Calls Try.prog 91 #[.agg #[x0, x1, x2, x3, x4, x5, x6, .int .i64 off], .int .i64 least, .int .i64 m] w (AroundP x0 x1 x2 x3 x4 x5 x6 off least m w) := by
 refine calls_fr Try.func91 Try.ntmps91 rfl rfl fun g hg => ?_
 have k0 : g 0 = .agg #[x0, x1, x2, x3, x4, x5, x6, .int .i64 off] := hg 0
 have k1 : g 1 = .int .i64 least := hg 1
 have k2 : g 2 = .int .i64 m := hg 2
 clear hg
 have fB0 : Below w.heap.size w w := Below.refl _ _
 refine wp_seq_k fun K1 hK1 => ?_
 refine region_dk 4 [(3, 0), (4, 1), (5, 2), (6, 3)] [[], [], [], []] (rel [bx 0 #[x0, x1, x2, x3, x4, x5, x6, .int .i64 off] 104,
   bx 1 #[.int .i64 least] 3,
   bx 2 #[.int .i64 m] 3,
   is (.nilFunc)])
  ⟨bx_k, bx_k, bx_k, is_k, trivial⟩
  ⟨fun f s W c d i j k a => opb rfl rfl (by simp [go_sem, a.e 0 k0]),
  fun f s W c d i j k a => opb rfl rfl (by simp [go_sem, a.e 1 k1]),
  fun f s W c d i j k a => opb rfl rfl (by simp [go_sem, a.e 2 k2]),
  fun f s W c d i j k a => opv rfl rfl (by simp [go_sem]) rfl, trivial⟩ ?_
 intro f1 s1 W1 hB1 g1 hg1
 have fB1 := hB1.f fB0
 have z1 := hB1.below.size
 obtain ⟨r1_0, br1_0⟩ := hB1.is 0
 have lr1_0 := hB1.lr 0 br1_0
 obtain ⟨r1_1, br1_1⟩ := hB1.is 1
 have lr1_1 := hB1.lr 1 br1_1
 obtain ⟨r1_2, br1_2⟩ := hB1.is 2
 have lr1_2 := hB1.lr 2 br1_2
 have ne1_0_1 : s1 0 ≠ s1 1 := hB1.ne 0 1 (by decide) (by decide) (by decide) (fun _ _ _ h => lt_of_blk h.2) (fun _ _ _ h => lt_of_blk h.2)
 have ne1_0_2 : s1 0 ≠ s1 2 := hB1.ne 0 2 (by decide) (by decide) (by decide) (fun _ _ _ h => lt_of_blk h.2) (fun _ _ _ h => lt_of_blk h.2)
 have ne1_1_2 : s1 1 ≠ s1 2 := hB1.ne 1 2 (by decide) (by decide) (by decide) (fun _ _ _ h => lt_of_blk h.2) (fun _ _ _ h => lt_of_blk h.2)
 refine hK1 _ _ ?_
 have k1_3 := kt hg1 3 r1_0
 have k1_4 := kt hg1 4 r1_1
 have k1_5 := kt hg1 5 r1_2
 have k1_6 := kt hg1 6 (hB1.is 3)
 refine wp_seq_k fun K2 hK2 => ?_
 refine region_dk 2 [(7, 0), (6, 1)] [[], [0]] (rel [is (.func (.func 104) #[] #[.pointer (some ⟨(s1 1), 0, none⟩), .pointer (some ⟨(s1 2), 0, none⟩), .pointer (some ⟨(s1 0), 0, none⟩)]),
   is (.func (.func 104) #[] #[.pointer (some ⟨(s1 1), 0, none⟩), .pointer (some ⟨(s1 2), 0, none⟩), .pointer (some ⟨(s1 0), 0, none⟩)])])
  ⟨is_k, is_k, trivial⟩
  ⟨fun f s W c d i j k a => opv rfl rfl (by simp [go_sem, a.e 4 k1_4, a.e 5 k1_5, a.e 3 k1_3]) rfl,
  fun f s W c d i j k a => opv rfl rfl (by simp [go_sem, a.e 7 (d 0 rfl)]) rfl, trivial⟩ ?_
 intro f2 s2 W2 hB2 g2 hg2
 have fB2 := hB2.f fB1
 have z2 := hB2.below.size
 have b2_0 := hB2.b br1_0
 have b2_1 := hB2.b br1_1
 have b2_2 := hB2.b br1_2
 refine hK2 _ _ ?_
 have k2_6 := kt hg2 6 (hB2.is 1)
 refine wp_ret ?_
 refine leave_one (N := 8) (v := .func (.func 104) #[] #[.pointer (some ⟨(s1 1), 0, none⟩), .pointer (some ⟨(s1 2), 0, none⟩), .pointer (some ⟨(s1 0), 0, none⟩)]) (.inr rfl) Try.results91 rfl k2_6 ?_
 exact ⟨_, _, _, rfl, ⟨b2_1, b2_2, b2_0⟩, fB2⟩
end Go.Proofs.Ythnediamopehfaa
namespace Go.Proofs.Ythnediamopehfaa
open Go.RowKit Go.Shelf
attribute [local go_sem] Oper.semAt_some
def loOf (least m off : Int) : Int := max least (m - off)
def hiOf (m off : Int) : Int := min 3000 (m + off)
def someB (least m off : Int) (p : Int → Bool) : Bool := (ints (loOf least m off) (hiOf m off)).any p
theorem keeps_of {W W' : World} (h : Below W.heap.size W W') : KeepsOthers W W' := ⟨h.size, fun k o hk _ => (h.block k (lt_of_blk hk)).trans hk⟩
set_option maxHeartbeats 4000000 in
theorem some_any (x0 x1 x2 x3 x4 x5 x6 : Value) (off least m : Int) (gi : FuncId) (caps : Array Value) (p : Int → Bool) (w : World) (r1 : -100000 ≤ m) (r2 : m ≤ 100000) (r3 : -100000 ≤ off) (r4 : off ≤ 100000) (r5 : 0 ≤ least) (r6 : least ≤ 100000)
    (hg : ∀ xs w, (callFunc gi xs).run Try.prog w = .ok (.enter gi xs) w)
    (hp : ∀ x, loOf least m off ≤ x → x ≤ hiOf m off → ∀ W, Below w.heap.size w W → Calls Try.prog gi (#[.int .i64 x] ++ caps) W fun e W' => e = .returned (.bool (p x)) ∧ Below W.heap.size W W') :
    Calls Try.prog 78 #[.agg #[x0, x1, x2, x3, x4, x5, x6, .int .i64 off], .int .i64 least, .int .i64 m, .func (.func gi) #[] caps] w fun e w' => e = .returned (.bool (someB least m off p)) ∧ Below w.heap.size w w' := by
  have Hp := Lib.hid hp
  clear hp
  refine (callsIn_wide (n := 9)).1 ?_
  refine callsIn_of_wp_marks Try.func78 rfl trivial ?_ rfl
  simp only [Try.ntmps78, List.size_toArray, List.length_cons, List.length_nil, Nat.reduceAdd, Nat.reduceSub, Array.replicate_succ, Array.replicate_zero, List.push_toArray, List.append_toArray, List.nil_append, List.cons_append]
  gi_wp2_with (refine ⟨trivial, ?_⟩; gi_at_call 91; refine (callsIn_wide.2 (around_any x0 x1 x2 x3 x4 x5 x6 off least m _)).mono ?_; rintro e w1 ⟨B1, B2, B3, rfl, ⟨k1, k2, k3⟩, hb⟩)
  have fB : Below w.heap.size w w1 := bnext (by repeat (first | exact Below.refl _ _ | assumption | apply Below.drew | (refine balloc ?_ _))) hb
  have b7 : w1.heap[w.heap.size + 1]? = some (.cells #[.func (.func gi) #[] caps] 90 (0, 0)) := (hb.block _ (by simp)).trans ((blk_past (blk_new (by simp))))
  have b8 : w1.heap[w.heap.size + 1 + 1]? = some (.cells #[.bool false] 4 (0, 0)) := (hb.block _ (by simp)).trans (blk_new (by simp))
  have fs : w.heap.size + 1 + 1 < w1.heap.size := lt_of_blk b8
  have q1 := lt_of_blk k1; have q2 := lt_of_blk k2; have q3 := lt_of_blk k3
  clear hb
  have FB := Lib.hid fB; have K1 := Lib.hid k1; have K2 := Lib.hid k2; have K3 := Lib.hid k3; have K7 := Lib.hid b7; have K8 := Lib.hid b8
  clear fB k1 k2 k3 b7 b8
  refine wpIn_rangeFunc_ownF (α := Rg (loOf least m off) (hiOf m off)) rfl (by omega) (gf := 104) (lb := #[.pointer (some ⟨B1, 0, none⟩), .pointer (some ⟨B2, 0, none⟩), .pointer (some ⟨B3, 0, none⟩)]) rfl trivial (enters_of Try.func104 (by kernel_rfl) rfl)
    (encs := fun x => #[.int .i64 x.1]) (Kp := Below w1.heap.size) (S := fun xs => vals xs = ints (loOf least m off) (hiOf m off)) (Sp := fun pre => vals pre <+: ints (loOf least m off) (hiOf m off)) (N := 300000) (w0 := w1)
    (fun l J Jx W hW hJ hJx hY h0 => around1_in Fence.wide 8 trivial rfl (by omega) l w1.heap.size B1 B2 B3 least m off _ _ rfl rfl r1 r2 r3 r4 r5 r6 J Jx hY W q1 q2 q3 ((hW.cell (p := ⟨B1, 0, none⟩) q1).trans (Joins.cell_of_block K1.out 0)) ((hW.cell (p := ⟨B2, 0, none⟩) q2).trans (Joins.cell_of_block K2.out 0)) ((hW.cell (p := ⟨B3, 7, none⟩) q3).trans (Joins.cell_of_block K3.out 7)) h0)
    belowK_t (belowK_b (Nat.le_refl _)) (Below.refl _ _) (fun _ => rfl)
    (fun pre W => (vals pre).any p = false ∧ Below w1.heap.size w1 W)
    (fun c pre W => (c = .ret ∧ (vals pre).any p = true) ∧ (W.cell? ⟨w.heap.size + 1 + 1, 0, none⟩ = some (.bool true)) ∧ Below w.heap.size w W)
    (OwnFrom.and (ownFrom_pure _ _) (ownFrom_below (Nat.le_refl _) (Nat.le_refl _)))
    (fun c => OwnFrom.and (ownFrom_pure _ _) (OwnFrom.and (Own.from (fun s A B row hs hg hr => cell_kept hs hg hr) _) (ownFrom_below (Nat.le_refl _) (by omega))))
    ⟨rfl, Below.refl _ _⟩
    (fun x => { tmps := #[.agg #[x0, x1, x2, x3, x4, x5, x6, .int .i64 off], .int .i64 least, .int .i64 m, .func (.func gi) #[] caps, .pointer (some ⟨w.heap.size, 0, none⟩), undef, undef, .pointer (some ⟨w.heap.size + 1, 0, none⟩), .pointer (some ⟨w.heap.size + 1 + 1, 0, none⟩), .int .i64 x.1, .agg #[x0, x1, x2, x3, x4, x5, x6, .int .i64 off], .int .i64 least, .int .i64 m, .func (.func 104) #[] #[.pointer (some ⟨B1, 0, none⟩), .pointer (some ⟨B2, 0, none⟩), .pointer (some ⟨B3, 0, none⟩)], .int .i64 x.1, undef, undef, undef], defers := [] }) ?assign ?body ?done ?stop
  case assign =>
    intro l x W K hK
    gi_wp2
    exact hK
  case body =>
    rintro l pre x W ⟨hany, hbW⟩ _
    have c7 : W.cell? ⟨w.heap.size + 1, 0, none⟩ = some (.func (.func gi) #[] caps) := (hbW.cell (p := ⟨w.heap.size + 1, 0, none⟩) (by show w.heap.size + 1 < _; omega)).trans (Joins.cell_of_block K7.out 0)
    have hx1 := x.2.1; have hx2 := x.2.2
    have C := Hp.out x.1 hx1 hx2 W (FB.out.trans (hbW.mono FB.out.size))
    have HA := Lib.hid hany; have HW := Lib.hid hbW
    clear hany hbW
    by_cases hpx : p x.1 = true
    · rw [hpx] at C
      have CC := Lib.hid C
      have c8 : ∀ W', Below W.heap.size W W' → W'.cell? ⟨w.heap.size + 1 + 1, 0, none⟩ = some (.bool false) := fun W' h' => (h'.cell (p := ⟨w.heap.size + 1 + 1, 0, none⟩) (by have := HW.out.size; show w.heap.size + 1 + 1 < _; omega)).trans ((HW.out.cell (p := ⟨w.heap.size + 1 + 1, 0, none⟩) (by show w.heap.size + 1 + 1 < _; omega)).trans (Joins.cell_of_block K8.out 0))
      have z8 : ∀ W', Below W.heap.size W W' → W'.frozen? ⟨w.heap.size + 1 + 1, 0, none⟩ = false := fun W' h' => (h'.frozen (p := ⟨w.heap.size + 1 + 1, 0, none⟩) (by have := HW.out.size; show w.heap.size + 1 + 1 < _; omega)).trans ((HW.out.frozen (p := ⟨w.heap.size + 1 + 1, 0, none⟩) (by show w.heap.size + 1 + 1 < _; omega)).trans (Joins.unfrozen_of_block K8.out 0))
      have C8 := Lib.hid c8; have Z8 := Lib.hid z8
      clear C c8 z8
      gi_wp2_with (refine ⟨trivial, ?_⟩; refine (CallsIn.inRound l (callsIn_wide.2 CC.out)).mono ?_; rintro e W2 ⟨rfl, hb2⟩; have d8 := C8.out W2 hb2; have e8 := Z8.out W2 hb2)
      exact ⟨(keeps_of hb2).trans (KeepsOthers.setCell _ _ _), ⟨rfl, by rw [vals_snoc, List.any_append]; simp [hpx]⟩, World.cell?_setCell_same' _ _ _ (by rw [d8]; rfl), (FB.out.trans ((HW.out.mono FB.out.size).trans (hb2.mono (Nat.le_trans FB.out.size HW.out.size)))).setCell (by show w.heap.size ≤ w.heap.size + 1 + 1; omega) _⟩
    · have hpx' : p x.1 = false := by simpa using hpx
      rw [hpx'] at C
      have CC := Lib.hid C
      clear C
      gi_wp2_with (refine ⟨trivial, ?_⟩; refine (CallsIn.inRound l (callsIn_wide.2 CC.out)).mono ?_; rintro e W2 ⟨rfl, hb2⟩)
      exact ⟨keeps_of hb2, hb2.mono HW.out.size, by rw [vals_snoc, List.any_append, HA.out]; simp [hpx'], HW.out.trans (hb2.mono HW.out.size)⟩
  case done =>
    rintro D ys W hD hys ⟨hany, hbW⟩ hK
    have c8 : W.cell? ⟨w.heap.size + 1 + 1, 0, none⟩ = some (.bool false) := (hbW.cell (p := ⟨w.heap.size + 1 + 1, 0, none⟩) (by show w.heap.size + 1 + 1 < _; omega)).trans (Joins.cell_of_block K8.out 0)
    have z8 : W.frozen? ⟨w.heap.size + 1 + 1, 0, none⟩ = false := (hbW.frozen (p := ⟨w.heap.size + 1 + 1, 0, none⟩) (by show w.heap.size + 1 + 1 < _; omega)).trans (Joins.unfrozen_of_block K8.out 0)
    have HA := Lib.hid (show someB least m off p = false by unfold someB; rw [← hys]; exact hany)
    have HB := Lib.hid (FB.out.trans (hbW.mono FB.out.size))
    clear hys hany hbW
    gi_wp2
    have hK' := (KeepsOthers.setCell W ⟨w.heap.size + 1 + 1, 0, none⟩ (.bool false)).same D _ hK rfl
    refine ⟨by simp, .inl ⟨_, _, rfl, run_takeDeferred hK', ?_⟩⟩
    have c9 := cell_kept (World.cell?_setCell_same' W ⟨w.heap.size + 1 + 1, 0, none⟩ (.bool false) (by rw [c8]; rfl)) (grownBy_putObj' _ D (.deferred none)) (fun r e => by cases e; exact ⟨_, hK', rfl⟩)
    refine ⟨.bool false, by simp [results, Try.results78, go_sem, c9], by rw [HA.out], ?_⟩
    exact ((HB.out.setCell (p := ⟨w.heap.size + 1 + 1, 0, none⟩) (by show w.heap.size ≤ w.heap.size + 1 + 1; omega) _)).trans (belowK_b (w := w) (Nat.le_refl _) _ D _ _ (by omega) hK' rfl rfl)
  case stop =>
    rintro D c pre W hD hpre ⟨⟨rfl, hany⟩, hc8, hbW⟩ hK
    have HA := Lib.hid (show someB least m off p = true by
      unfold someB
      obtain ⟨t, ht⟩ := hpre
      rw [← ht, List.any_append, hany]; rfl)
    have HB := Lib.hid hbW
    clear hpre hany hbW
    gi_wp2
    refine ⟨by simp, .inl ⟨_, _, rfl, run_takeDeferred hK, ?_⟩⟩
    have c9 := cell_kept hc8 (grownBy_putObj' _ D (.deferred none)) (fun r e => by cases e; exact ⟨_, hK, rfl⟩)
    refine ⟨.bool true, by simp [results, Try.results78, go_sem, c9], by rw [HA.out], ?_⟩
    exact HB.out.trans (belowK_b (w := w) (Nat.le_refl _) _ D _ _ (by omega) hK rfl rfl)
end Go.Proofs.Ythnediamopehfaa
