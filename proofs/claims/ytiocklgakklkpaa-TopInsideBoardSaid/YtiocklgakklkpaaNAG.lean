/- Part of the proof: what the claim leans on. -/
import Derived.Test.YtiocklgakklkpaaNAF
import Derived.Shelf.Small.Bits
import Derived.Shelf.Small.Wraps
import Derived.Shelf.Strconv.Itoa0
import Derived.Shelf.Sort.Plain
import Derived.Shelf.Slices.Turned
import Derived.Ground.Names2Prog
import Derived.Shelf.Slices.SearchI
import Derived.Shelf.Slices.In.SortNone
import Derived.Test.YtiocklgakklkpaaProg
set_option linter.unusedSimpArgs false
set_option linter.unusedVariables false
namespace Go.Proofs.Ytiocklgakklkpaa
open Go.RowKit
theorem within_all {lo hi : Int} {l : List Int} (h : within lo hi l = true) : ∀ x ∈ l, lo ≤ x ∧ x ≤ hi := by
  intro x hx
  simp only [within, Bool.not_eq_true', List.any_eq_false] at h
  have := h x hx
  simp only [Bool.or_eq_true, decide_eq_true_eq, not_or] at this
  omega
theorem fine_of_check {b : Bl} (h : checkErr b = 0) : Fine b ∧ (0 ≤ b.tab ∧ b.tab ≤ 100) ∧ (0 ≤ b.slot ∧ b.slot ≤ 20) ∧ (∀ x ∈ b.panels, 1 ≤ x ∧ x ≤ 3000) ∧ (1 ≤ b.height ∧ b.height ≤ 3000) ∧ (b.isOpen = true → b.top = [0, 0]) := by
  have hl : lensOk b = true := by
    cases e : lensOk b with
    | true => rfl
    | false => simp [checkErr, e] at h
  have hn : numsOk b = true := by
    cases e : numsOk b with
    | true => rfl
    | false => simp [checkErr, e, hl] at h
  have ho : (b.isOpen && !within 0 0 b.top) = false := by
    cases e : (b.isOpen && !within 0 0 b.top) with
    | false => rfl
    | true => simp [checkErr, e, hl, hn] at h
  obtain ⟨tab, panels, height, top, bottom, slot, op⟩ := b
  simp only [lensOk, Bool.and_eq_true, beq_iff_eq] at hl
  simp only [numsOk, areLong, Bool.and_eq_true] at hn
  obtain ⟨p0, p1, p2, p3, rfl⟩ := list_four hl.1
  obtain ⟨t0, t1, rfl⟩ := list_two hl.2.1
  obtain ⟨u0, u1, rfl⟩ := list_two hl.2.2
  obtain ⟨n1, n2, n3, n4, n5⟩ := hn
  have m1 := within_all n1; have m2 := within_all n2; have m3 := within_all n3; have m4 := within_all n4; have m5 := within_all n5
  simp only [List.mem_cons, List.not_mem_nil, or_false, forall_eq_or_imp, forall_eq, List.cons_append, List.nil_append] at m1 m2 m3 m4 m5
  refine ⟨⟨p0, p1, p2, p3, t0, t1, u0, u1, rfl, rfl, rfl, ?_⟩, m1, m5, ?_, m3, ?_⟩
  · simp only; omega
  · simp only [List.mem_cons, List.not_mem_nil, or_false, forall_eq_or_imp, forall_eq]; omega
  · intro hop
    simp only at hop
    subst hop
    simp only [Bool.true_and, Bool.not_eq_false'] at ho
    have := within_all ho
    simp only [List.mem_cons, List.not_mem_nil, or_false, forall_eq_or_imp, forall_eq] at this
    have e0 : t0 = 0 := by omega
    have e1 : t1 = 0 := by omega
    rw [e0, e1]
theorem clamp_in {least by_ n : Int} (h : 0 ≤ least) (h' : least ≤ 3000) : 0 ≤ clamp least by_ n ∧ clamp least by_ n ≤ 3000 := by
  unfold clamp; simp only [Int.min_def, Int.max_def]; split <;> split <;> omega
theorem fine_off {b : Bl} (h : Fine b) (long flaps : Int) : Fine (offB b long flaps) := by
  obtain ⟨p0, p1, p2, p3, t0, t1, u0, u1, e1, e2, e3, r0, r1, r2, r3, s0, s1, q0, q1, rh⟩ := h
  have c1 : ∀ n, 0 ≤ clamp 1 long n ∧ clamp 1 long n ≤ 3000 := fun n => clamp_in (by omega) (by omega)
  have c0 : ∀ n, 0 ≤ clamp 0 flaps n ∧ clamp 0 flaps n ≤ 3000 := fun n => clamp_in (by omega) (by omega)
  cases ho : b.isOpen with
  | true => exact ⟨clamp 1 long p0, clamp 1 long p1, clamp 1 long p2, clamp 1 long p3, t0, t1, clamp 0 flaps u0, clamp 0 flaps u1, by simp only [offB, e1, List.map_cons, List.map_nil], by simp only [offB, ho, e2, if_true], by simp only [offB, e3, List.map_cons, List.map_nil], c1 _, c1 _, c1 _, c1 _, s0, s1, c0 _, c0 _, c1 _⟩
  | false => exact ⟨clamp 1 long p0, clamp 1 long p1, clamp 1 long p2, clamp 1 long p3, clamp 0 flaps t0, clamp 0 flaps t1, clamp 0 flaps u0, clamp 0 flaps u1, by simp only [offB, e1, List.map_cons, List.map_nil], by simp [offB, ho, e2], by simp only [offB, e3, List.map_cons, List.map_nil], c1 _, c1 _, c1 _, c1 _, c0 _, c0 _, c0 _, c0 _, c1 _⟩
def meas (b : Bl) : List (Int × Int) :=
  measOf (b.panels.getD 0 0) (b.panels.getD 1 0) (b.panels.getD 2 0) (b.panels.getD 3 0) b.height (b.top.getD 0 0) (b.top.getD 1 0) (b.bottom.getD 0 0) (b.bottom.getD 1 0) b.isOpen
theorem measures_blk (v : Value) (b : Bl) (w : World) (hB : Blk w v b) (hF : Fine b) : Calls Try.prog 34 #[v] w (NewPp (meas b) w) := by
  obtain ⟨a1, n1, c1, a2, n2, c2, a3, n3, c3, rfl, h1, h2, h3⟩ := hB
  obtain ⟨tab, panels, h, top, bottom, slot, op⟩ := b
  obtain ⟨p0, p1, p2, p3, t0, t1, u0, u1, e1, e2, e3, r0, r1, r2, r3, s0, s1, q0, q1, rh⟩ := hF
  simp only at e1 e2 e3 h1 h2 h3 rh
  subst e1 e2 e3
  obtain rfl : n1 = 4 := h1.1
  obtain rfl : n2 = 2 := h2.1
  obtain rfl : n3 = 2 := h3.1
  obtain ⟨b1, o1, rfl, l1, k1⟩ := h1.at (by simp)
  obtain ⟨b2, o2, rfl, l2, k2⟩ := h2.at (by simp)
  obtain ⟨b3, o3, rfl, l3, k3⟩ := h3.at (by simp)
  exact measures_any tab p0 p1 p2 p3 h t0 t1 u0 u1 slot op b1 o1 c1 b2 o2 c2 b3 o3 c3 w k1 k2 k3 l1 l2 l3 r0 r1 s0 s1 q0 q1
set_option maxHeartbeats 400000 in
theorem isOff_any (n : Int) (w : World) :
    Calls Try.prog 32 #[.int .i64 n] w fun e w' => e = .returned (.bool (within 0 5 [n])) ∧ Below w.heap.size w w' := by
  go_enter Try.func32, Try.ntmps32
  go_wp2_with (refine (within_any 0 5 _ _ _ [n] _ (ii_one _ _ _ _ rfl)).mono ?_; rintro e w2 ⟨rfl, hb2⟩)
  go_ret
  exact ⟨rfl, bnext (balloc1 _ _) hb2⟩
def innerErr (b : Bl) (s : Sp) (off : Int) : Int := if checkedErr [b] [s] = 0 then if within 0 5 [off] = true then 0 else 7 else checkedErr [b] [s]
def innerL (b : Bl) (s : Sp) (off : Int) : List Sp :=
  List.zipWith (fun x y => (1000 * x.1 - x.2 * s.2, 1000 * y.1 - y.2 * s.1)) (meas (offB b (-off) off)) (meas (offB b off (-off)))
/-- What a call that gives spans and an error leaves. -/
def SpansErr (l : List Sp) (err : Int) (w : World) (e : Ending) (w' : World) : Prop :=
  ∃ a n c, e = .returned (.tuple #[.slice a n c, .int .i64 err]) ∧ Pp w' a n c l ∧ Below w.heap.size w w'
theorem pp_nil (w : World) : Pp w none 0 0 [] := ⟨rfl, Nat.le_refl _, by unfold maxLen; omega, by simp, .inl rfl⟩
theorem pp_one (w : World) (x y : Int) (t : TypeId) (g : Nat) (hg : g = w.heap.size) : Pp (w.alloc (.cells #[.int .i64 x, .int .i64 y] t)) (some ⟨g, 0, none⟩) 1 1 [(x, y)] := by
  subst hg
  refine ⟨rfl, Nat.le_refl _, by unfold maxLen; omega, by simp, .inr ⟨_, _, rfl, by simp, fun i hi => ?_⟩⟩
  have : i = 0 ∨ i = 1 := by simp at hi; omega
  rcases this with rfl | rfl <;> simp
end Go.Proofs.Ytiocklgakklkpaa
namespace Go.Proofs.Ytiocklgakklkpaa
open Go.RowKit
theorem getD_mem {α : Type} (l : List α) (k : Nat) (h : k < l.length) (d : α) : l.getD k d ∈ l := by
  rw [List.getD_eq_getElem?_getD, List.getElem?_eq_getElem h]; exact List.getElem_mem h
theorem meas_in {b : Bl} (h : Fine b) : ∀ x ∈ meas b, -6000 ≤ x.1 ∧ x.1 ≤ 3000 ∧ 1 ≤ x.2 ∧ x.2 ≤ 2 := by
  obtain ⟨p0, p1, p2, p3, t0, t1, u0, u1, e1, e2, e3, r0, r1, r2, r3, s0, s1, q0, q1, rh⟩ := h
  have hf : 1 ≤ foldsOf b.isOpen ∧ foldsOf b.isOpen ≤ 2 := by unfold foldsOf; split <;> omega
  intro x hx
  simp only [meas, measOf, e1, e2, e3, List.getD_cons_zero, List.getD_cons_succ, List.mem_cons, List.not_mem_nil, or_false] at hx
  rcases hx with rfl | rfl | rfl | rfl | rfl | rfl | rfl | rfl | rfl <;> simp only <;> omega
theorem meas_length (b : Bl) : (meas b).length = 9 := rfl
theorem innerL_length (b : Bl) (s : Sp) (off : Int) : (innerL b s off).length = 9 := by simp [innerL, meas_length]
theorem innerL_getD (b : Bl) (s : Sp) (off : Int) (k : Nat) (h : k < 9) : (innerL b s off).getD k (0, 0) =
    (1000 * ((meas (offB b (-off) off)).getD k (0, 0)).1 - ((meas (offB b (-off) off)).getD k (0, 0)).2 * s.2, 1000 * ((meas (offB b off (-off))).getD k (0, 0)).1 - ((meas (offB b off (-off))).getD k (0, 0)).2 * s.1) := by
  have h1 := meas_length (offB b (-off) off); have h2 := meas_length (offB b off (-off))
  unfold innerL
  simp only [List.getD_eq_getElem?_getD, List.getElem?_zipWith]
  rw [List.getElem?_eq_getElem (by omega), List.getElem?_eq_getElem (by omega)]
  rfl
theorem flat_snoc (xs : List (Int × Int)) (k : Nat) (h : k < xs.length) (p : Int × Int) (hp : xs.getD k (0, 0) = p) :
    ((xs.take (k + 1)).flatMap fun x => [Value.int .i64 x.1, Value.int .i64 x.2]) = ((xs.take k).flatMap fun x => [Value.int .i64 x.1, Value.int .i64 x.2]) ++ [.int .i64 p.1, .int .i64 p.2] := by
  rw [take_snoc xs k h (0, 0), hp]; simp
theorem Try.info40x : (Try.prog.info? 40).map (fun i => (i.zero, i.size, i.bytes)) = some (some (.agg #[.int .i64 0, .int .i64 0]), 2, 16) := by kernel_rfl
set_option maxRecDepth 100000 in
set_option maxHeartbeats 8000000 in
theorem inner_any (v : Value) (b : Bl) (lo hi off : Int) (w : World) (hB : Blk w v b) (ho1 : -9223372036854775808 ≤ off) (ho2 : off ≤ 9223372036854775807) :
    Calls Try.prog 21 #[v, .agg #[.int .i64 lo, .int .i64 hi], .int .i64 off] w (SpansErr (if innerErr b (lo, hi) off = 0 then innerL b (lo, hi) off else []) (innerErr b (lo, hi) off) w) := by
  obtain ⟨a1, n1, c1, a2, n2, c2, a3, n3, c3, rfl, h1, h2, h3⟩ := hB
  have HB := Lib.hid (show Blk w _ b from ⟨a1, n1, c1, a2, n2, c2, a3, n3, c3, rfl, h1, h2, h3⟩)
  have H1 := Lib.hid h1; have H2 := Lib.hid h2; have H3 := Lib.hid h3
  have O1 := Lib.hid ho1; have O2 := Lib.hid ho2
  clear h1 h2 h3 ho1 ho2
  generalize hL : (if innerErr b (lo, hi) off = 0 then innerL b (lo, hi) off else []) = L
  generalize hE : innerErr b (lo, hi) off = er at hL ⊢
  have HL := Lib.hid hL; have HE := Lib.hid hE
  clear hL hE
  go_enter Try.func21, Try.ntmps21
  go_wp2_with fail
  have fB : Below w.heap.size w ((((w.alloc (.cells #[.int .i64 b.tab, .slice a1 n1 c1, .int .i64 b.height, .slice a2 n2 c2, .slice a3 n3 c3, .int .i64 b.slot, .bool b.isOpen] 37)).alloc (.cells #[.int .i64 lo, .int .i64 hi] 40)).alloc (.cells #[.int .i64 b.tab, .slice a1 n1 c1, .int .i64 b.height, .slice a2 n2 c2, .slice a3 n3 c3, .int .i64 b.slot, .bool b.isOpen] 37)).alloc (.cells #[.int .i64 lo, .int .i64 hi] 40)) := (by repeat (first | exact Below.refl _ _ | assumption | apply Below.drew | (refine balloc ?_ _)))
  have fX : ((((w.alloc (.cells #[.int .i64 b.tab, .slice a1 n1 c1, .int .i64 b.height, .slice a2 n2 c2, .slice a3 n3 c3, .int .i64 b.slot, .bool b.isOpen] 37)).alloc (.cells #[.int .i64 lo, .int .i64 hi] 40)).alloc (.cells #[.int .i64 b.tab, .slice a1 n1 c1, .int .i64 b.height, .slice a2 n2 c2, .slice a3 n3 c3, .int .i64 b.slot, .bool b.isOpen] 37)).alloc (.cells #[.int .i64 lo, .int .i64 hi] 40)).heap[w.heap.size]? = some (.cells #[.int .i64 b.tab, .slice a1 n1 c1, .int .i64 b.height, .slice a2 n2 c2, .slice a3 n3 c3, .int .i64 b.slot, .bool b.isOpen] 37 (0, 0)) := blk_past (blk_past (blk_past (blk_new rfl)))
  have fY : ((((w.alloc (.cells #[.int .i64 b.tab, .slice a1 n1 c1, .int .i64 b.height, .slice a2 n2 c2, .slice a3 n3 c3, .int .i64 b.slot, .bool b.isOpen] 37)).alloc (.cells #[.int .i64 lo, .int .i64 hi] 40)).alloc (.cells #[.int .i64 b.tab, .slice a1 n1 c1, .int .i64 b.height, .slice a2 n2 c2, .slice a3 n3 c3, .int .i64 b.slot, .bool b.isOpen] 37)).alloc (.cells #[.int .i64 lo, .int .i64 hi] 40)).heap[w.heap.size + 1]? = some (.cells #[.int .i64 lo, .int .i64 hi] 40 (0, 0)) := blk_past (blk_past (blk_new (by simp)))
  have fU : ((((w.alloc (.cells #[.int .i64 b.tab, .slice a1 n1 c1, .int .i64 b.height, .slice a2 n2 c2, .slice a3 n3 c3, .int .i64 b.slot, .bool b.isOpen] 37)).alloc (.cells #[.int .i64 lo, .int .i64 hi] 40)).alloc (.cells #[.int .i64 b.tab, .slice a1 n1 c1, .int .i64 b.height, .slice a2 n2 c2, .slice a3 n3 c3, .int .i64 b.slot, .bool b.isOpen] 37)).alloc (.cells #[.int .i64 lo, .int .i64 hi] 40)).heap[w.heap.size + 1 + 1]? = some (.cells #[.int .i64 b.tab, .slice a1 n1 c1, .int .i64 b.height, .slice a2 n2 c2, .slice a3 n3 c3, .int .i64 b.slot, .bool b.isOpen] 37 (0, 0)) := blk_past (blk_new (by simp))
  have fp : Pp ((((w.alloc (.cells #[.int .i64 b.tab, .slice a1 n1 c1, .int .i64 b.height, .slice a2 n2 c2, .slice a3 n3 c3, .int .i64 b.slot, .bool b.isOpen] 37)).alloc (.cells #[.int .i64 lo, .int .i64 hi] 40)).alloc (.cells #[.int .i64 b.tab, .slice a1 n1 c1, .int .i64 b.height, .slice a2 n2 c2, .slice a3 n3 c3, .int .i64 b.slot, .bool b.isOpen] 37)).alloc (.cells #[.int .i64 lo, .int .i64 hi] 40)) (some ⟨w.heap.size + 1 + 1 + 1, 0, none⟩) 1 1 [(lo, hi)] := pp_one _ _ _ _ _ (by simp)
  have fs : w.heap.size + 1 + 1 + 1 < ((((w.alloc (.cells #[.int .i64 b.tab, .slice a1 n1 c1, .int .i64 b.height, .slice a2 n2 c2, .slice a3 n3 c3, .int .i64 b.slot, .bool b.isOpen] 37)).alloc (.cells #[.int .i64 lo, .int .i64 hi] 40)).alloc (.cells #[.int .i64 b.tab, .slice a1 n1 c1, .int .i64 b.height, .slice a2 n2 c2, .slice a3 n3 c3, .int .i64 b.slot, .bool b.isOpen] 37)).alloc (.cells #[.int .i64 lo, .int .i64 hi] 40)).heap.size := by simp
  generalize ((((w.alloc (.cells #[.int .i64 b.tab, .slice a1 n1 c1, .int .i64 b.height, .slice a2 n2 c2, .slice a3 n3 c3, .int .i64 b.slot, .bool b.isOpen] 37)).alloc (.cells #[.int .i64 lo, .int .i64 hi] 40)).alloc (.cells #[.int .i64 b.tab, .slice a1 n1 c1, .int .i64 b.height, .slice a2 n2 c2, .slice a3 n3 c3, .int .i64 b.slot, .bool b.isOpen] 37)).alloc (.cells #[.int .i64 lo, .int .i64 hi] 40)) = W at fB fX fY fU fp fs ⊢
  have FB := Lib.hid fB; have FX := Lib.hid fX; have FY := Lib.hid fY
  clear fB
  refine (checked_one b a1 a2 a3 n1 c1 n2 c2 n3 c3 _ _ _ _ _ [(lo, hi)] _ (by omega) (fun i => Joins.cell_of_block fU i) (H1.out.below FB.out (Nat.le_refl _)) (H2.out.below FB.out (Nat.le_refl _)) (H3.out.below FB.out (Nat.le_refl _)) fp).mono ?_
  rintro e w1 ⟨rfl, hb1⟩
  clear fU fp fX fY
  by_cases z : checkedErr [b] [(lo, hi)] = 0
  case neg =>
    have z' : (checkedErr [b] [(lo, hi)] != 0) = true := by rw [bne_iff_ne]; exact z
    have HE' := Lib.hid (HE.out.symm.trans (show innerErr b (lo, hi) off = checkedErr [b] [(lo, hi)] by simp only [innerErr]; rw [if_neg z]))
    have HZ := Lib.hid z
    generalize checkedErr [b] [(lo, hi)] = x at *
    clear z
    go_wp2
    go_ret2
    refine ⟨none, 0, 0, by rw [HE'.out]; rfl, ?_, bnext FB.out hb1⟩
    rw [← HL.out, HE'.out, if_neg HZ.out]; exact pp_nil _
  rw [z]
  have Z := Lib.hid z
  clear z
  go_wp2_with fail
  refine (isOff_any off _).mono ?_
  rintro e w2 ⟨rfl, hx⟩
  have hb2 := bnext hb1 hx
  clear hx hb1
  by_cases z : within 0 5 [off] = true
  case neg =>
    have z' : within 0 5 [off] = false := by simpa using z
    rw [z']
    have HE' := Lib.hid (HE.out.symm.trans (show innerErr b (lo, hi) off = 7 by simp only [innerErr]; rw [if_pos Z.out, if_neg z]))
    clear z z'
    go_wp2
    go_ret2
    refine ⟨none, 0, 0, by rw [HE'.out]; rfl, ?_, bnext FB.out hb2⟩
    rw [← HL.out, HE'.out, if_neg (by decide)]; exact pp_nil _
  rw [z]
  have HE' := Lib.hid (HE.out.symm.trans (show innerErr b (lo, hi) off = 0 by simp only [innerErr]; rw [if_pos Z.out, if_pos z]))
  have ho := within_all z off (by simp)
  have hck : checkErr b = 0 := by
    have := Z.out
    simp only [checkedErr] at this
    by_cases h : checkErr b = 0
    · exact h
    · rw [if_neg h] at this; exact absurd this h
  have hsp : isSpan (lo, hi) 1 10000 = true := by
    have := Z.out
    simp only [checkedErr] at this
    rw [if_pos hck] at this
    cases h : isSpan (lo, hi) 1 10000 with
    | true => rfl
    | false => simp [h] at this
  have hF := (fine_of_check hck).1
  simp only [isSpan, Bool.and_eq_true, decide_eq_true_eq] at hsp
  have hlo := within_all hsp.1 lo (by simp)
  have hhi := within_all hsp.1 hi (by simp)
  have hlh := hsp.2
  clear hsp hck z
  have wn : IntKind.i64.wrap (-off) = -off := IntWalk.i64_in _ (by omega)
  have FX2 := Lib.hid ((hb2.block _ (by omega)).trans FX.out)
  have FY2 := Lib.hid ((hb2.block _ (by omega)).trans FY.out)
  have FB2 := Lib.hid (bnext FB.out hb2)
  have HF := Lib.hid hF
  have fs2 : w.heap.size + 1 + 1 + 1 < w2.heap.size := Nat.lt_of_lt_of_le fs hb2.size
  clear hF hb2 FX FY FB fs
  have x0 : w2.cell? ⟨w.heap.size, 0, none⟩ = some (.int .i64 b.tab) := Joins.cell_of_block FX2.out 0
  have x1 : w2.cell? ⟨w.heap.size, 1, none⟩ = some (.slice a1 n1 c1) := Joins.cell_of_block FX2.out 1
  have x2 : w2.cell? ⟨w.heap.size, 2, none⟩ = some (.int .i64 b.height) := Joins.cell_of_block FX2.out 2
  have x3 : w2.cell? ⟨w.heap.size, 3, none⟩ = some (.slice a2 n2 c2) := Joins.cell_of_block FX2.out 3
  have x4 : w2.cell? ⟨w.heap.size, 4, none⟩ = some (.slice a3 n3 c3) := Joins.cell_of_block FX2.out 4
  have x5 : w2.cell? ⟨w.heap.size, 5, none⟩ = some (.int .i64 b.slot) := Joins.cell_of_block FX2.out 5
  have x6 : w2.cell? ⟨w.heap.size, 6, none⟩ = some (.bool b.isOpen) := Joins.cell_of_block FX2.out 6
  go_wp2_with fail
  go_region_held3 (fun w' => w'.cell? ⟨w.heap.size, 0, none⟩ = some (.int .i64 b.tab) ∧ w'.cell? ⟨w.heap.size, 1, none⟩ = some (.slice a1 n1 c1) ∧ w'.cell? ⟨w.heap.size, 2, none⟩ = some (.int .i64 b.height) ∧ w'.cell? ⟨w.heap.size, 3, none⟩ = some (.slice a2 n2 c2) ∧ w'.cell? ⟨w.heap.size, 4, none⟩ = some (.slice a3 n3 c3) ∧ w'.cell? ⟨w.heap.size, 5, none⟩ = some (.int .i64 b.slot) ∧ w'.cell? ⟨w.heap.size, 6, none⟩ = some (.bool b.isOpen))
    (first
      | (refine ⟨(Below.cell (B := w2.heap.size) (w := w2) ?_ (by show w.heap.size < _; omega)).trans x0, (Below.cell (B := w2.heap.size) (w := w2) ?_ (by show w.heap.size < _; omega)).trans x1, (Below.cell (B := w2.heap.size) (w := w2) ?_ (by show w.heap.size < _; omega)).trans x2, (Below.cell (B := w2.heap.size) (w := w2) ?_ (by show w.heap.size < _; omega)).trans x3, (Below.cell (B := w2.heap.size) (w := w2) ?_ (by show w.heap.size < _; omega)).trans x4, (Below.cell (B := w2.heap.size) (w := w2) ?_ (by show w.heap.size < _; omega)).trans x5, (Below.cell (B := w2.heap.size) (w := w2) ?_ (by show w.heap.size < _; omega)).trans x6⟩ <;> (repeat (first | exact Below.refl _ _ | assumption | apply Below.drew | refine balloc ?_ _)); done)
      | go_keep)
    (first
      | (go_at_call 33; (with_reducible refine (off_any _ b (-off) off _ (HB.out.below (FB2.out.trans ((show Below w2.heap.size w2 _ from (by repeat (first | exact Below.refl _ _ | assumption | apply Below.drew | (refine balloc ?_ _)))).mono FB2.out.size)) (Nat.le_refl _)) HF.out (by omega) (by omega) (by omega) (by omega)).mono ?_); rintro e w3 ⟨v3, rfl, hv3, hx⟩; have hb3 : Below w2.heap.size w2 w3 := bnext (by repeat (first | exact Below.refl _ _ | assumption | apply Below.drew | (refine balloc ?_ _))) hx; have HV3 := Lib.hid hv3; clear hx hv3)
      | (go_at_call 34; (with_reducible refine (measures_blk v3 (offB b (-off) off) _ HV3.out (fine_off HF.out _ _)).mono ?_); rintro e w4 ⟨g4, cap4, rfl, hp4, hx⟩; have hb4 : Below w2.heap.size w2 w4 := bnext hb3 hx; have HP4 := Lib.hid hp4; clear hx hp4)
      | (go_at_call 33; (with_reducible refine (off_any _ b off (-off) _ (HB.out.below (FB2.out.trans ((show Below w2.heap.size w2 _ from (by repeat (first | exact Below.refl _ _ | assumption | apply Below.drew | (refine balloc ?_ _)))).mono FB2.out.size)) (Nat.le_refl _)) HF.out (by omega) (by omega) (by omega) (by omega)).mono ?_); rintro e w5 ⟨v5, rfl, hv5, hx5⟩; have hb5 : Below w2.heap.size w2 w5 := bnext (by repeat (first | exact Below.refl _ _ | assumption | apply Below.drew | (refine balloc ?_ _))) hx5; have HV5 := Lib.hid hv5; clear hv5)
      | (go_at_call 34; (with_reducible refine (measures_blk v5 (offB b off (-off)) _ HV5.out (fine_off HF.out _ _)).mono ?_); rintro e w6 ⟨g6, cap6, rfl, hp6, hx⟩; have hb6 : Below w2.heap.size w2 w6 := bnext hb5 hx; have HP6 := Lib.hid hp6; have HP46 := Lib.hid (HP4.out.below (bnext hx5 hx) (Nat.le_refl _)); clear hx hp6))
  have FY6 := Lib.hid ((hb6.block _ (by omega)).trans FY2.out)
  have FB6 := Lib.hid (bnext FB2.out hb6)
  have hF1 := meas_in (fine_off HF.out (-off) off)
  have hF2 := meas_in (fine_off HF.out off (-off))
  have M1 := Lib.hid hF1; have M2 := Lib.hid hF2
  have fs6 : w.heap.size + 1 < w6.heap.size := by have := hb6.size; omega
  clear x0 x1 x2 x3 x4 x5 x6 hb3 hb4 hb5 hb6 hx5 hF1 hF2 HP4 HV3 HV5 wn
  obtain ⟨i0, hi0, hz0, hz1, hz2⟩ := info_parts Try.info40x
  obtain ⟨b4, o4, e4, l4, q4⟩ := HP46.out.at (by rw [meas_length]; omega)
  obtain ⟨b6, o6, e6, l6, q6⟩ := HP6.out.at (by rw [meas_length]; omega)
  simp only [Option.some.injEq, Addr.mk.injEq, and_true] at e4 e6
  obtain ⟨rfl, rfl⟩ := e4
  obtain ⟨rfl, rfl⟩ := e6
  have hL : L = innerL b (lo, hi) off := by rw [← HL.out, HE'.out, if_pos rfl]
  have hlen : L.length = 9 := by rw [hL, innerL_length]
  have hget : ∀ k, k < 9 → L.getD k (0, 0) = (1000 * ((meas (offB b (-off) off)).getD k (0, 0)).1 - ((meas (offB b (-off) off)).getD k (0, 0)).2 * hi, 1000 * ((meas (offB b off (-off))).getD k (0, 0)).1 - ((meas (offB b off (-off))).getD k (0, 0)).2 * lo) := fun k h => by rw [hL]; exact innerL_getD b (lo, hi) off k h
  have HGet := Lib.hid hget; have HLen := Lib.hid hlen; have Q4 := Lib.hid q4; have Q6 := Lib.hid q6
  clear hL hlen hget HL q4 q6
  rw [meas_length, meas_length]
  go_wp2
  go_loopw [6, 11, 41] (fun v _ i wr => ∃ k : Nat, k ≤ 9 ∧ i = .int .i64 k ∧ wr.ownsRow w6.heap.size 40 2 v k ((L.take k).flatMap fun x => [Value.int .i64 x.1, Value.int .i64 x.2]) ∧ Below w6.heap.size w6 wr) (fun _ _ i _ => 9 - (intOf i).toNat)
  case atStart => exact ⟨0, Nat.zero_le _, rfl, World.ownsRow_nil _ _ _ _, Below.refl _ _⟩
  case round =>
    obtain ⟨k, hk, rfl, hown, hbel⟩ := hrel
    have Hown := Lib.hid hown
    clear hown
    by_cases hlt : k < 9
    · have hk0 : (0 : Int) ≤ (k : Int) := by omega
      have hk1 : (k : Int) < 9 := by omega
      have D0 := (Q4.out k (by rw [meas_length]; exact hlt)).1
      have D1 := (Q4.out k (by rw [meas_length]; exact hlt)).2
      have D2 := (Q6.out k (by rw [meas_length]; exact hlt)).1
      have D3 := (Q6.out k (by rw [meas_length]; exact hlt)).2
      have D4 := Joins.cell_of_block FY6.out 0
      have D5 := Joins.cell_of_block FY6.out 1
      have G := HGet.out k hlt
      have R1 := M1.out ((meas (offB b (-off) off)).getD k (0, 0)) (getD_mem _ k (by rw [meas_length]; exact hlt) _)
      have R2 := M2.out ((meas (offB b off (-off))).getD k (0, 0)) (getD_mem _ k (by rw [meas_length]; exact hlt) _)
      generalize (meas (offB b (-off) off)).getD k (0, 0) = x at *
      generalize (meas (offB b off (-off))).getD k (0, 0) = y at *
      obtain ⟨x1, x2⟩ := x
      obtain ⟨y1, y2⟩ := y
      simp only [Nat.zero_add, List.getElem?_toArray, List.getElem?_cons_succ, List.getElem?_cons_zero] at D0 D1 D2 D3 D4 D5 G R1 R2
      have A0 := (hbel.cell (p := ⟨g4, k * 2, none⟩) l4).trans D0
      have A1 := (hbel.cell (p := ⟨g4, k * 2 + 1, none⟩) l4).trans D1
      have B0 := (hbel.cell (p := ⟨g6, k * 2, none⟩) l6).trans D2
      have B1 := (hbel.cell (p := ⟨g6, k * 2 + 1, none⟩) l6).trans D3
      have C0 := (hbel.cell (p := ⟨w.heap.size + 1, 0, none⟩) fs6).trans D4
      have C1 := (hbel.cell (p := ⟨w.heap.size + 1, 1, none⟩) fs6).trans D5
      have l4r : g4 < wr.heap.size := Nat.lt_of_lt_of_le l4 hbel.size
      have l6r : g6 < wr.heap.size := Nat.lt_of_lt_of_le l6 hbel.size
      have lsr : w.heap.size + 1 < wr.heap.size := Nat.lt_of_lt_of_le fs6 hbel.size
      have HG := Lib.hid G
      clear G
      go_wp2_with fail
      go_region_held3 (fun w' => w'.cell? ⟨g4, k * 2, none⟩ = some (.int .i64 x1) ∧ w'.cell? ⟨g4, k * 2 + 1, none⟩ = some (.int .i64 x2) ∧ w'.cell? ⟨g6, k * 2, none⟩ = some (.int .i64 y1) ∧ w'.cell? ⟨g6, k * 2 + 1, none⟩ = some (.int .i64 y2) ∧
          w'.cell? ⟨w.heap.size + 1, 0, none⟩ = some (.int .i64 lo) ∧ w'.cell? ⟨w.heap.size + 1, 1, none⟩ = some (.int .i64 hi))
        (first
          | (refine ⟨(Below.cell (B := wr.heap.size) (w := wr) ?_ l4r).trans A0, (Below.cell (B := wr.heap.size) (w := wr) ?_ l4r).trans A1, (Below.cell (B := wr.heap.size) (w := wr) ?_ l6r).trans B0, (Below.cell (B := wr.heap.size) (w := wr) ?_ l6r).trans B1, (Below.cell (B := wr.heap.size) (w := wr) ?_ lsr).trans C0, (Below.cell (B := wr.heap.size) (w := wr) ?_ lsr).trans C1⟩ <;> (repeat (first | exact Below.refl _ _ | assumption | apply Below.drew | refine balloc ?_ _)); done)
          | (refine ⟨(Below.cell (B := w6.heap.size) (w := w6) hbn l4).trans D0, (Below.cell (B := w6.heap.size) (w := w6) hbn l4).trans D1, (Below.cell (B := w6.heap.size) (w := w6) hbn l6).trans D2, (Below.cell (B := w6.heap.size) (w := w6) hbn l6).trans D3, (Below.cell (B := w6.heap.size) (w := w6) hbn fs6).trans D4, (Below.cell (B := w6.heap.size) (w := w6) hbn fs6).trans D5⟩)
          | go_keep)
        (first
          | (go_at_call 35; (with_reducible refine (with_any x1 x2 hi _ (by omega) (by omega) (by omega) (by omega) (by omega) (by omega)).mono ?_); rintro e wa ⟨rfl, hxa⟩; have hba : Below wr.heap.size wr wa := bnext (by repeat (first | exact Below.refl _ _ | assumption | apply Below.drew | (refine balloc ?_ _))) hxa; clear hxa)
          | (go_at_call 35; (with_reducible refine (with_any y1 y2 lo _ (by omega) (by omega) (by omega) (by omega) (by omega) (by omega)).mono ?_); rintro e wb ⟨rfl, hxb⟩; have hbb : Below wr.heap.size wr wb := bnext (by repeat (first | exact Below.refl _ _ | assumption | apply Below.drew | (refine balloc ?_ _))) hxb; clear hxb; have hownb := own_below Hown.out hbb)
          | (refine step_append_lies _ (by rfl) _ _ _ (by rfl) w6.heap.size 40 i0 _ 2 16 Try.underlying48 hi0 hz0 hz1 hz2 rfl (by omega) _ k _ (by rfl) (hownb.alloc _) ⟨wb.heap.size, 0, none⟩ 1 1 [.int .i64 (1000 * x1 - x2 * hi), .int .i64 (1000 * y1 - y2 * lo)] (by rfl) (by rfl) (World.news_of_block (fr := (0, 0)) (t := 40) (cs := #[.int .i64 (1000 * x1 - x2 * hi), .int .i64 (1000 * y1 - y2 * lo)]) (blk_new (by simp))) (by simp [Value.oneCell']) (by omega) (by unfold maxLen; omega) (by omega) (balloc (hbel.trans (hbb.mono hbel.size)) _).size _ rfl ?_; intro gn capn wn hown3 hgrow3 _ hlt3; have hbn : Below w6.heap.size w6 wn := (balloc (hbel.trans (hbb.mono hbel.size)) _).grown hgrow3 (balloc (hbel.trans (hbb.mono hbel.size)) _).size (own_ge hownb)))
      clear D0 D1 D2 D3 D4 D5 A0 A1 B0 B1 C0 C1 hba hbb hownb hgrow3
      go_wp2
      go_roundw
      case rel => exact ⟨k + 1, by omega, by go_num, by rw [flat_snoc L k (by rw [HLen.out]; exact hlt) _ HG.out]; exact hown3, hbn⟩
      case measure => simp [intOf]; omega
    · obtain rfl : k = 9 := by omega
      obtain ⟨g', cap', rfl⟩ := Joins.ownsRow_form Hown.out (by omega)
      go_wp2
      go_ret2
      refine ⟨some ⟨g', 0, none⟩, 9, cap', by rw [HE'.out]; rfl, ?_, (FB6.out.trans (hbel.mono FB6.out.size))⟩
      have Ho := Hown.out
      rw [List.take_of_length_le (by rw [HLen.out]; omega)] at Ho
      exact owns_pp Ho
end Go.Proofs.Ytiocklgakklkpaa
namespace Go.Proofs.Ytiocklgakklkpaa
open Go.RowKit
def acrossOf (b : Bl) : Int := b.tab + b.panels.getD 0 0 + b.panels.getD 1 0 + b.panels.getD 2 0 + b.panels.getD 3 0
def topOf (b : Bl) : Int := max (b.top.getD 0 0) (b.top.getD 1 0)
def alongOf (b : Bl) : Int := topOf b + b.height + max (b.bottom.getD 0 0) (b.bottom.getD 1 0)
/-- What Size leaves. -/
def SizeP (b : Bl) (w : World) (e : Ending) (w' : World) : Prop :=
  e = .returned (.tuple (if checkErr b = 0 then #[.int .i64 (acrossOf b), .int .i64 (alongOf b), .int .i64 (acrossOf b * alongOf b), .int .i64 0] else #[.int .i64 0, .int .i64 0, .int .i64 0, .int .i64 (checkErr b)])) ∧ Below w.heap.size w w'
set_option maxRecDepth 100000 in
set_option maxHeartbeats 4000000 in
theorem size_any (v : Value) (b : Bl) (w : World) (hB : Blk w v b) : Calls Try.prog 31 #[v] w (SizeP b w) := by
  obtain ⟨a1, n1, c1, a2, n2, c2, a3, n3, c3, rfl, h1, h2, h3⟩ := hB
  by_cases z : checkErr b = 0
  case neg =>
    have C := Lib.hid (check_any _ b (w.alloc (.cells #[.int .i64 b.tab, .slice a1 n1 c1, .int .i64 b.height, .slice a2 n2 c2, .slice a3 n3 c3, .int .i64 b.slot, .bool b.isOpen] 37)) ⟨a1, n1, c1, a2, n2, c2, a3, n3, c3, rfl, h1.below (balloc1 w _) (Nat.le_refl _), h2.below (balloc1 w _) (Nat.le_refl _), h3.below (balloc1 w _) (Nat.le_refl _)⟩)
    have z' : (checkErr b != 0) = true := by rw [bne_iff_ne]; exact z
    have Z := Lib.hid z
    clear h1 h2 h3 z
    generalize hx : checkErr b = x at *
    go_enter Try.func31, Try.ntmps31
    go_wp2_with ((with_reducible refine (C.out).mono ?_); rintro e w1 ⟨rfl, hb1⟩)
    exact bodyPost_ret (v := .tuple #[.int .i64 0, .int .i64 0, .int .i64 0, .int .i64 x]) (by simp [results, Try.results31, go_sem]) rfl ⟨by rw [hx, if_neg Z.out], bnext (balloc1 _ _) hb1⟩
  have C := Lib.hid (check_any _ b (w.alloc (.cells #[.int .i64 b.tab, .slice a1 n1 c1, .int .i64 b.height, .slice a2 n2 c2, .slice a3 n3 c3, .int .i64 b.slot, .bool b.isOpen] 37)) ⟨a1, n1, c1, a2, n2, c2, a3, n3, c3, rfl, h1.below (balloc1 w _) (Nat.le_refl _), h2.below (balloc1 w _) (Nat.le_refl _), h3.below (balloc1 w _) (Nat.le_refl _)⟩)
  rw [z] at C
  obtain ⟨hF, htab, -, -, -, -⟩ := fine_of_check z
  obtain ⟨tab, panels, h, top, bottom, slot, op⟩ := b
  obtain ⟨p0, p1, p2, p3, t0, t1, u0, u1, e1, e2, e3, r0, r1, r2, r3, s0, s1, q0, q1, rh⟩ := hF
  simp only at e1 e2 e3 h1 h2 h3 rh htab
  subst e1 e2 e3
  obtain rfl : n1 = 4 := h1.1
  obtain rfl : n2 = 2 := h2.1
  obtain rfl : n3 = 2 := h3.1
  obtain ⟨b1, o1, rfl, l1, k1⟩ := h1.at (by simp)
  obtain ⟨b2, o2, rfl, l2, k2⟩ := h2.at (by simp)
  obtain ⟨b3, o3, rfl, l3, k3⟩ := h3.at (by simp)
  have Z := Lib.hid z; have H2 := Lib.hid h2; have H3 := Lib.hid h3; have K1 := Lib.hid k1
  have hw0 := balloc1 w (.cells #[.int .i64 tab, .slice (some ⟨b1, o1, none⟩) 4 c1, .int .i64 h, .slice (some ⟨b2, o2, none⟩) 2 c2, .slice (some ⟨b3, o3, none⟩) 2 c3, .int .i64 slot, .bool op] 37)
  have R := Lib.hid (And.intro htab (And.intro r0 (And.intro r1 (And.intro r2 r3))))
  clear z h1 h2 h3 k1 k2 k3
  have wp : ∀ i, i < 4 → w.cell? ⟨b1, o1 + i, none⟩ = some (.int .i64 ([p0, p1, p2, p3].getD i 0)) := K1.out
  go_enter Try.func31, Try.ntmps31
  go_wp2_with ((with_reducible refine (C.out).mono ?_); rintro e w1 ⟨rfl, hb1⟩; have hc1 := box_cell hb1)
  have hB1 : Below w.heap.size w w1 := bnext hw0 hb1
  have x0 := (hB1.cell (p := ⟨b1, o1 + 0, none⟩) l1).trans (wp 0 (by omega))
  have x1 := (hB1.cell (p := ⟨b1, o1 + 1, none⟩) l1).trans (wp 1 (by omega))
  have x2 := (hB1.cell (p := ⟨b1, o1 + 2, none⟩) l1).trans (wp 2 (by omega))
  have x3 := (hB1.cell (p := ⟨b1, o1 + 3, none⟩) l1).trans (wp 3 (by omega))
  simp only [Nat.add_zero, List.getD_cons_zero, List.getD_cons_succ] at x0 x1 x2 x3
  have M2 := Lib.hid (H2.out.below hB1 (Nat.le_refl _)); have M3 := Lib.hid (H3.out.below hB1 (Nat.le_refl _))
  clear wp
  refine wp_loop_rounds 5 ?_
  rw [rounds_succ]
  go_wp2
  rw [rounds_succ]
  go_wp2
  rw [rounds_succ]
  go_wp2
  rw [rounds_succ]
  go_wp2
  rw [rounds_succ]
  have y2 := hc1 2; have y3 := hc1 3; have y4 := hc1 4
  simp only [List.getElem?_toArray, List.getElem?_cons_succ, List.getElem?_cons_zero] at y2 y3 y4
  clear x0 x1 x2 x3 hc1
  have mt : 0 ≤ max t0 t1 ∧ max t0 t1 ≤ 3000 := by simp only [Int.max_def]; split <;> omega
  have mu : 0 ≤ max u0 u1 ∧ max u0 u1 ≤ 3000 := by simp only [Int.max_def]; split <;> omega
  have ht := Lib.hid (rfl : max t0 t1 = max t0 t1)
  generalize hmt : max t0 t1 = mt' at *
  generalize hmu : max u0 u1 = mu' at *
  have HMT := Lib.hid hmt; have HMU := Lib.hid hmu
  clear hmt hmu ht
  have wr1 : IntKind.i64.wrap (mt' + h) = mt' + h := IntWalk.i64_in _ (by omega)
  have wr2 : IntKind.i64.wrap (mt' + h + mu') = mt' + h + mu' := IntWalk.i64_in _ (by omega)
  go_wp2_with fail
  go_region_held3 (fun w' => w'.cell? ⟨w.heap.size, 2, none⟩ = some (.int .i64 h) ∧ w'.cell? ⟨w.heap.size, 3, none⟩ = some (.slice (some ⟨b2, o2, none⟩) 2 c2) ∧ w'.cell? ⟨w.heap.size, 4, none⟩ = some (.slice (some ⟨b3, o3, none⟩) 2 c3)) (go_keep)
    (first
      | (go_at_call 54; (with_reducible refine (max_two t0 t1 _ _ _ (M2.out.below (by repeat (first | exact Below.refl _ _ | assumption | apply Below.drew | (refine balloc ?_ _))) (Nat.le_refl _))).mono ?_); rintro e w' ⟨rfl, rfl⟩; rw [HMT.out])
      | (go_at_call 54; (with_reducible refine (max_two u0 u1 _ _ _ (M3.out.below (by repeat (first | exact Below.refl _ _ | assumption | apply Below.drew | (refine balloc ?_ _))) (Nat.le_refl _))).mono ?_); rintro e w' ⟨rfl, rfl⟩; rw [HMU.out]))
  have hm1 : 0 ≤ (tab + p0 + p1 + p2 + p3) * (mt' + h + mu') := Int.mul_nonneg (by omega) (by omega)
  have hm2 : (tab + p0 + p1 + p2 + p3) * (mt' + h + mu') ≤ 20000 * 20000 := Int.mul_le_mul (by omega) (by omega) (by omega) (by omega)
  clear wr1 wr2 y2 y3 y4
  go_wp2
  refine bodyPost_ret (v := .tuple #[.int .i64 (tab + p0 + p1 + p2 + p3), .int .i64 (mt' + h + mu'), .int .i64 ((tab + p0 + p1 + p2 + p3) * (mt' + h + mu')), .int .i64 0]) (by simp [results, Try.results31, go_sem]) rfl ⟨?_, hB1.drew⟩
  rw [if_pos Z.out]
  simp only [acrossOf, alongOf, topOf, List.getD_cons_zero, List.getD_cons_succ, HMT.out, HMU.out]
end Go.Proofs.Ytiocklgakklkpaa
namespace Go.Proofs.Ytiocklgakklkpaa
open Go.RowKit
theorem checked_split {bs : List Bl} {cs : List Sp} (h : checkedErr bs cs = 0) : (∀ b ∈ bs, checkErr b = 0) ∧ (∀ s ∈ cs, isSpan s 1 10000 = true) := by
  induction bs with
  | nil =>
    refine ⟨by simp, fun s hs => ?_⟩
    cases e : isSpan s 1 10000 with
    | true => rfl
    | false =>
      have : cs.any (fun s => !isSpan s 1 10000) = true := List.any_eq_true.2 ⟨s, hs, by simp [e]⟩
      simp [checkedErr, this] at h
  | cons b r ih =>
    simp only [checkedErr] at h
    by_cases e : checkErr b = 0
    · rw [if_pos e] at h
      exact ⟨by intro x hx; rcases List.mem_cons.1 hx with rfl | hx; exact e; exact (ih h).1 x hx, (ih h).2⟩
    · rw [if_neg e] at h; exact absurd h e
theorem span_bounds {s : Sp} (h : isSpan s 1 10000 = true) : 1 ≤ s.1 ∧ s.1 ≤ s.2 ∧ s.2 ≤ 10000 := by
  simp only [isSpan, Bool.and_eq_true, decide_eq_true_eq] at h
  have h1 := within_all h.1 s.1 (by simp); have h2 := within_all h.1 s.2 (by simp)
  omega
end Go.Proofs.Ytiocklgakklkpaa
namespace Go.Proofs
open Go.Shelf
def Try.lays189_ren : Go.Shelf.Ren := ⟨fun | 189 => 50 | 125 => 69 | 257 => 68 | 128 => 89 | 129 => 90 | 294 => 80 | 295 => 81 | 296 => 82 | 297 => 83 | 298 => 84 | 299 => 85 | 216 => 86 | 300 => 87 | 301 => 88 | 328 => 94 | 329 => 95 | 330 => 96 | 331 => 97 | 332 => 98 | 215 => 99 | 343 => 100 | n => n, fun | 28 => 35 | 3 => 3 | 46 => 126 | 0 => 0 | 51 => 145 | 53 => 147 | 4 => 4 | 183 => 137 | 182 => 136 | 131 => 142 | 5 => 5 | 9 => 9 | 218 => 150 | 222 => 154 | 228 => 156 | 229 => 157 | n => n, fun | n => n⟩
theorem Try.lays189 : Go.Proofs.Lays.n189 Try.prog Try.lays189_ren := {
  mixed := by kernel_rfl
  f125 := Try.func69.trans (congrArg some (by kernel_rfl))
  f128 := Try.func89.trans (congrArg some (by kernel_rfl))
  f129 := Try.func90.trans (congrArg some (by kernel_rfl))
  f189 := Try.func50.trans (congrArg some (by kernel_rfl))
  f215 := Try.func99.trans (congrArg some (by kernel_rfl))
  f216 := Try.func86.trans (congrArg some (by kernel_rfl))
  f257 := Try.func68.trans (congrArg some (by kernel_rfl))
  f294 := Try.func80.trans (congrArg some (by kernel_rfl))
  f295 := Try.func81.trans (congrArg some (by kernel_rfl))
  f296 := Try.func82.trans (congrArg some (by kernel_rfl))
  f297 := Try.func83.trans (congrArg some (by kernel_rfl))
  f298 := Try.func84.trans (congrArg some (by kernel_rfl))
  f299 := Try.func85.trans (congrArg some (by kernel_rfl))
  f300 := Try.func87.trans (congrArg some (by kernel_rfl))
  f301 := Try.func88.trans (congrArg some (by kernel_rfl))
  f328 := Try.func94.trans (congrArg some (by kernel_rfl))
  f329 := Try.func95.trans (congrArg some (by kernel_rfl))
  f330 := Try.func96.trans (congrArg some (by kernel_rfl))
  f331 := Try.func97.trans (congrArg some (by kernel_rfl))
  f332 := Try.func98.trans (congrArg some (by kernel_rfl))
  f343 := Try.func100.trans (congrArg some (by kernel_rfl))
  t0 := Try.underlying0
  a0 := Try.isAgg0
  z0 := Try.sizeOf0
  v0 := Try.zeroValue0
  t3 := Try.underlying3
  a3 := Try.isAgg3
  z3 := Try.sizeOf3
  v3 := Try.zeroValue3
  t4 := Try.underlying4
  a4 := Try.isAgg4
  z4 := Try.sizeOf4
  v4 := Try.zeroValue4
  t5 := Try.underlying5
  a5 := Try.isAgg5
  z5 := Try.sizeOf5
  v5 := Try.zeroValue5
  t9 := Try.underlying9
  a9 := Try.isAgg9
  z9 := Try.sizeOf9
  v9 := Try.zeroValue9
  t28 := Try.underlying35
  a28 := Try.isAgg35
  z28 := Try.sizeOf35
  v28 := Try.zeroValue35
  t46 := Try.underlying126
  a46 := Try.isAgg126
  z46 := Try.sizeOf126
  v46 := Try.zeroValue126
  t51 := Try.underlying145
  a51 := Try.isAgg145
  z51 := Try.sizeOf145
  v51 := Try.zeroValue145
  t53 := Try.underlying147
  a53 := Try.isAgg147
  z53 := Try.sizeOf147
  v53 := Try.zeroValue147
  t131 := Try.underlying142
  a131 := Try.isAgg142
  z131 := Try.sizeOf142
  v131 := Try.zeroValue142
  t182 := Try.underlying136
  a182 := Try.isAgg136
  z182 := Try.sizeOf136
  v182 := Try.zeroValue136
  t183 := Try.underlying137
  a183 := Try.isAgg137
  z183 := Try.sizeOf137
  v183 := Try.zeroValue137
  t218 := Try.underlying150
  a218 := Try.isAgg150
  z218 := Try.sizeOf150
  v218 := Try.zeroValue150
  t222 := Try.underlying154
  a222 := Try.isAgg154
  z222 := Try.sizeOf154
  v222 := Try.zeroValue154
  t228 := Try.underlying156
  a228 := Try.isAgg156
  z228 := Try.sizeOf156
  v228 := Try.zeroValue156
  t229 := Try.underlying157
  a229 := Try.isAgg157
  z229 := Try.sizeOf157
  v229 := Try.zeroValue157 }
open Go.Sort Go.RowKit in
theorem Try.slices_Sort_int (blk off cap : Nat) (zs : List Int) (w : World) (hH : Holds (Value.int .i64) w blk off zs.toArray) (hblk : blk < w.heap.size) (hsz : zs.length < 4611686018427387904) :
    Calls Try.prog 50 #[.slice (some ⟨blk, off, none⟩) zs.length cap] w fun e w' =>
      e = .returned (.tuple #[]) ∧ ∃ n os, w' = grow (putRow (Value.int .i64) (Sort.ahead w n) blk off (zs.mergeSort fun x y => decide (x ≤ y)).toArray) os := Any.slices_Sort_int Try.lays189 blk off cap zs w hH hblk hsz
end Go.Proofs
namespace Go.Proofs.Ytiocklgakklkpaa
open Go.RowKit
/-- All that was there is as it was, but for block g. -/
structure Except (g : Nat) (w w' : World) : Prop where
  os : w'.os = w.os
  tape : w'.tape = w.tape
  output : w'.output = w.output
  size : w.heap.size ≤ w'.heap.size
  block : ∀ k, k < w.heap.size → k ≠ g → w'.heap[k]? = w.heap[k]?
theorem Except.below {g B : Nat} {a w w' : World} (h : Except g w w') (hb : Below B a w) (hB : B ≤ g) (hs : B ≤ w.heap.size) : Below B a w' :=
  ⟨h.os.trans hb.os, h.tape.trans hb.tape, h.output.trans hb.output, Nat.le_trans hb.size h.size, fun k hk => (h.block k (by omega) (by omega)).trans (hb.block k hk)⟩
theorem Except.cell {g : Nat} {w w' : World} (h : Except g w w') {p : Addr} (hp : p.block < w.heap.size) (hg : p.block ≠ g) : w'.cell? p = w.cell? p := World.cell?_of_block (w := w) (h.block p.block hp hg)
theorem Except.ii {g : Nat} {w w' : World} (h : Except g w w') {b off len cap : Nat} {xs : List Int} (hi : Ii w (some ⟨b, off, none⟩) len cap xs) (hb : b ≠ g) : Ii w' (some ⟨b, off, none⟩) len cap xs := by
  obtain ⟨h0, h1, h2, h3, h4⟩ := hi
  refine ⟨h0, h1, h2, h3, ?_⟩
  rcases h4 with h4 | ⟨b', off', ha, hlt, hc⟩
  · exact .inl h4
  · simp only [Option.some.injEq, Addr.mk.injEq, and_true] at ha
    obtain ⟨rfl, rfl⟩ := ha
    exact .inr ⟨b, off, rfl, Nat.lt_of_lt_of_le hlt h.size, fun i hi => (h.cell (p := ⟨b, off + i, none⟩) hlt hb).trans (hc i hi)⟩
/-- What Sort leaves. -/
def SortP (g cap : Nat) (zs : List Int) (w : World) (e : Ending) (w' : World) : Prop :=
  e = .returned (.tuple #[]) ∧ Ii w' (some ⟨g, 0, none⟩) zs.length cap (zs.mergeSort fun x y => decide (x ≤ y)) ∧ Except g w w'
theorem sort_own (g cap : Nat) (zs : List Int) (w : World) (h : Ii w (some ⟨g, 0, none⟩) zs.length cap zs) (hf : ∀ i, w.frozen? ⟨g, i, none⟩ = false) (hg : g < w.heap.size) (hn : zs.length ≤ 1000) :
    Calls Try.prog 50 #[.slice (some ⟨g, 0, none⟩) zs.length cap] w (SortP g cap zs w) := by
  have hH : Sort.Holds (Value.int .i64) w g 0 zs.toArray := by
    intro j hj
    have hj' : j < zs.length := by simpa using hj
    refine ⟨?_, by simpa using hf (0 + j)⟩
    rcases h.2.2.2.2 with h4 | ⟨b', off', ha, hlt, hc⟩
    · simp at h4; subst h4; simp at hj
    · simp only [Option.some.injEq, Addr.mk.injEq, and_true] at ha
      obtain ⟨rfl, rfl⟩ := ha
      rw [hc j (by simpa using hj')]
      simp [List.getD_eq_getElem?_getD, hj']
  refine (Try.slices_Sort_int g 0 cap zs w hH hg (by omega)).mono ?_
  rintro e w' ⟨rfl, n, os, rfl⟩
  have hl := List.length_mergeSort (le := fun x y : Int => decide (x ≤ y)) zs
  refine ⟨rfl, ⟨by rw [hl], h.2.1, h.2.2.1, h.2.2.2.1, .inr ⟨g, 0, rfl, ?_, fun i hi => ?_⟩⟩, ⟨rfl, rfl, rfl, ?_, fun k hk hkg => ?_⟩⟩
  · simp [Sort.grow, Sort.putRow, Sort.mapBlock, Sort.ahead]; omega
  · have hi' : i < zs.length := by simpa [hl] using hi
    rw [Sort.cell?_grow _ _ _ (by simpa [Sort.putRow, Sort.mapBlock, Sort.ahead] using hg), Sort.cell?_putRow _ _ _ _ zs.toArray _ (Sort.holds_ahead _ _ _ _ _ _ hH) (by simp [hl]) i (by simpa [hl] using hi')]
    simp [List.getD_eq_getElem?_getD, hi', hl]
  · simp [Sort.grow, Sort.putRow, Sort.mapBlock, Sort.ahead]
  · simp only [Sort.grow, Sort.putRow, Sort.mapBlock, Sort.ahead]
    rw [Array.getElem?_append_left (by simpa using hk), Array.getElem?_modify, if_neg (by omega)]
end Go.Proofs.Ytiocklgakklkpaa
