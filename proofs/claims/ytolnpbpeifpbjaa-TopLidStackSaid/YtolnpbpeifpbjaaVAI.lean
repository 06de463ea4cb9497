/- Part of the proof: what the claim leans on. -/
import Derived.ArgAppend
import Derived.Test.YtolnpbpeifpbjaaVAA
import Derived.Test.YtolnpbpeifpbjaaVAB
import Derived.Test.YtolnpbpeifpbjaaVAH
import Derived.Deep.AppendLies
import Derived.Test.YtolnpbpeifpbjaaVAD
import Derived.Test.YtolnpbpeifpbjaaVAC
import Derived.RangeFuncNested
import Derived.RangeFuncBound
import Derived.RangeFuncCalls
import Derived.RangeFuncLeaves
import Derived.Shelf.Abstract
import Derived.Shelf.RegionOpen
import Derived.WalkKit
import Derived.OwnWalkIn
import Derived.TacticsInMore
import Derived.LoopNIn
import Derived.LoopIn
set_option maxHeartbeats 4000000
set_option linter.unusedSimpArgs false
set_option linter.unusedVariables false
namespace Go.Proofs.Ytolnpbpeifpbjaa
open Go.RowKit
theorem run_appendOp {P : Program} {a : Act} {W W' : World} {dst : Option Nat} {s x : Operand} {t ty : TypeId} {pos : String} {af : Array Edge} {gd : Option (Nat × Bool)} {vs vx v : Value} (hs : a.eval s = vs) (hx : a.eval x = vx)
    (hr : (Builtin.append_ #[t, t] ty #[vs, vx]).run P W = .ok v W') :
    (execOp a.eval { dst := dst, op := .call { callee := .builtin .append, args := #[s, x], argTypes := #[t, t] }, type := ty, pos := pos, after := af, guard := gd }).run P W = .ok (.value v) W' := by
  simp only [execOp, resolve, invoke, builtin, Sem.run_bind, Sem.run_pure, Result.andThen_ok, List.map_toArray, List.map_cons, List.map_nil, hs, hx, hr]
theorem own_lt' {w : World} {base : Nat} {e : TypeId} {size g n cap : Nat} {xs : List Value} (h : w.ownsRow base e size (.slice (some ⟨g, 0, none⟩) n cap) n xs) : g < w.heap.size := by
  rcases h.2 with ⟨h', _⟩ | ⟨g', cap', cur, h', _, hg, _⟩
  · simp at h'
  · simp only [Value.slice.injEq, Option.some.injEq, Addr.mk.injEq, and_true, true_and] at h'
    obtain ⟨rfl, rfl⟩ := h'
    exact ltb hg
theorem clone_run (ty : TypeId) (W : World) (g : Nat) (a : Option Addr) (c : Nat) (xs : List Int) (h : Ii W a xs.length c xs) (hn : xs.length ≤ 1000) (hg : W.heap[g]? = some (.cells #[] 3 (0, 0))) (B : Nat) (hB : B ≤ g) (hB2 : B ≤ W.heap.size) :
    ∃ v W', (Builtin.append_ #[39, 39] ty #[.slice (some ⟨g, 0, none⟩) 0 0, .slice a xs.length c]).run Try.prog W = .ok v W' ∧ Below W.heap.size W W' ∧ NwIi B xs v W' := by
  obtain ⟨i0, hi, hz0, hz1, hz2⟩ := info_parts Try.info3x
  have hg' : g < W.heap.size := ltb hg
  by_cases hne : 0 < xs.length
  · obtain ⟨b, off, rfl, hb, hc⟩ := h.at hne
    obtain ⟨v, W', hr, hown, hgr⟩ := run_append_arg_grows (P := Try.prog) W 39 ty 3 i0 (.int .i64 0) 1 8 Try.underlying39 hi hz0 hz1 hz2 rfl (by decide) ⟨g, 0, none⟩ 0 0 [] rfl (fun j u hj => by simp at hj) ⟨b, off, none⟩ xs.length c (xs.map (Value.int .i64)) (by simp)
      (fun j u hj => by
        have hj' : j < xs.length := by
          rcases Nat.lt_or_ge j xs.length with h' | h'
          · exact h'
          · rw [List.getElem?_eq_none (by simpa using h')] at hj; cases hj
        rw [show ((⟨b, off, none⟩ : Addr).add j) = ⟨b, off + j, none⟩ from by unfold Addr.add; split <;> simp_all, hc j hj']
        simp [List.getElem?_map, hj'] at hj
        subst hj
        simp [List.getD_eq_getElem?_getD, hj'])
      (by omega) (by unfold maxLen; omega) (by omega)
    obtain ⟨g2, cap2, rfl⟩ := Joins.ownsRow_form hown (by omega)
    simp only [Nat.zero_add, List.nil_append] at hown hr
    exact ⟨_, W', hr, (Below.refl _ _).grown hgr (Nat.le_refl _) (fun k e => by cases e), g2, _, rfl, owns_ii (xs := xs) hown, Nat.le_trans hB2 (own_ge hown g2 rfl), own_lt' hown⟩
  · obtain rfl : xs = [] := by cases xs with | nil => rfl | cons x r => simp at hne
    have ii0 : Ii W (some ⟨g, 0, none⟩) 0 0 [] := ⟨rfl, Nat.le_refl _, by unfold maxLen; omega, by simp, .inl rfl⟩
    cases a with
    | none =>
      obtain rfl : c = 0 := h.2.2.2.1 rfl
      have hown : W.ownsRow 0 3 1 (.slice (some ⟨g, 0, none⟩) 0 0) 0 [] := ⟨rfl, .inr ⟨g, 0, #[], rfl, Nat.zero_le _, hg, Nat.le_refl _, by unfold maxLen; omega, rfl, rfl⟩⟩
      exact ⟨_, W, run_append_owned_none (P := Try.prog) W 0 39 ty 3 i0 1 Try.underlying39 hi _ 0 [] hown, Below.refl _ _, _, _, rfl, ii0, hB, hg'⟩
    | some ad =>
      have hr := run_append_room_cells (P := Try.prog) W 39 ty 3 i0 Try.underlying39 hi g 0 0 0 ad 0 c [] (by simp) (by simp) (by simp) (by omega) (by simp) (by simp)
      refine ⟨_, _, hr, ?_, g, _, rfl, ?_, hB, ?_⟩
      · simp [World.setCells]; exact Below.refl _ _
      · simp [World.setCells]; exact ii0
      · simp [World.setCells]; exact hg'
def NwBlk (B : Nat) (b : Bl) (v : Value) (W : World) : Prop :=
  ∃ g1 c1 g2 c2 g3 c3, v = .agg #[.int .i64 b.tab, .slice (some ⟨g1, 0, none⟩) b.panels.length c1, .int .i64 b.height, .slice (some ⟨g2, 0, none⟩) b.top.length c2, .slice (some ⟨g3, 0, none⟩) b.bottom.length c3, .int .i64 b.slot, .bool b.isOpen] ∧
    (Ii W (some ⟨g1, 0, none⟩) b.panels.length c1 b.panels ∧ B ≤ g1 ∧ g1 < W.heap.size) ∧ (Ii W (some ⟨g2, 0, none⟩) b.top.length c2 b.top ∧ B ≤ g2 ∧ g2 < W.heap.size) ∧ (Ii W (some ⟨g3, 0, none⟩) b.bottom.length c3 b.bottom ∧ B ≤ g3 ∧ g3 < W.heap.size)
theorem NwBlk.below {B : Nat} {b : Bl} {v : Value} {W W' : World} (h : NwBlk B b v W) (hb : Below W.heap.size W W') : NwBlk B b v W' := by
  obtain ⟨g1, c1, g2, c2, g3, c3, e, ⟨h1, l1, m1⟩, ⟨h2, l2, m2⟩, ⟨h3, l3, m3⟩⟩ := h
  exact ⟨g1, c1, g2, c2, g3, c3, e, ⟨h1.below hb (Nat.le_refl _), l1, Nat.lt_of_lt_of_le m1 hb.size⟩, ⟨h2.below hb (Nat.le_refl _), l2, Nat.lt_of_lt_of_le m2 hb.size⟩, ⟨h3.below hb (Nat.le_refl _), l3, Nat.lt_of_lt_of_le m3 hb.size⟩⟩
theorem NwBlk.low {B B' : Nat} {b : Bl} {v : Value} {W : World} (h : NwBlk B b v W) (hB : B' ≤ B) : NwBlk B' b v W := by
  obtain ⟨g1, c1, g2, c2, g3, c3, e, ⟨h1, l1, m1⟩, ⟨h2, l2, m2⟩, ⟨h3, l3, m3⟩⟩ := h
  exact ⟨g1, c1, g2, c2, g3, c3, e, ⟨h1, Nat.le_trans hB l1, m1⟩, ⟨h2, Nat.le_trans hB l2, m2⟩, ⟨h3, Nat.le_trans hB l3, m3⟩⟩
def NwBlkP (b : Bl) (w : World) (e : Ending) (w' : World) : Prop := ∃ v, e = .returned v ∧ NwBlk w.heap.size b v w' ∧ Below w.heap.size w w'
open Go.RowKit
theorem tail_value2 {P : Program} {ops : Array Oper} {Q : Exit → Act → World → Prop} {i m N d : Nat} {g : Nat → Value} {W W' : World} {o : Oper} {v : Value} (ho : ops[i]? = some o) (hg : o.guard = none) (hd : o.dst = some d) (hr : (execOp (fr N g).eval o).run P W = .ok (.value v) W')
    (h : wpOps P ops Q (List.range' (i + 1) m) (fr N (upd g d v)) W') : wpOps P ops Q (List.range' i (m + 1)) (fr N g) W := by
  rw [List.range'_succ, wpOps_cons]
  unfold wpOp
  simp only [ho, Region.wanted, hg, if_true]
  refine .inl ?_
  unfold Oper.wp
  rw [hr]
  simp only [Oper.upon, hd]
  rw [fr_put]; exact h
def OwnI (B : Nat) (xs : List Int) (g c : Nat) (W : World) : Prop := B ≤ g ∧ g < W.heap.size ∧ W.ownsRow B 3 1 (.slice (some ⟨g, 0, none⟩) xs.length c) xs.length (xs.map (Value.int .i64))
theorem OwnI.ii {B : Nat} {xs : List Int} {g c : Nat} {W : World} (h : OwnI B xs g c W) : Ii W (some ⟨g, 0, none⟩) xs.length c xs := owns_ii h.2.2
theorem OwnI.below {B : Nat} {xs : List Int} {g c : Nat} {W W' : World} (h : OwnI B xs g c W) (hb : Below W.heap.size W W') : OwnI B xs g c W' := by
  refine ⟨h.1, Nat.lt_of_lt_of_le h.2.1 hb.size, h.2.2.1, ?_⟩
  rcases h.2.2.2 with h4 | ⟨g', cap, cur, e, h5, h6, h7⟩
  · exact .inl h4
  · exact .inr ⟨g', cap, cur, e, h5, bwb h6 hb, h7⟩
theorem OwnI.other {B b : Nat} {xs : List Int} {g c : Nat} {W W' : World} (h : OwnI B xs g c W) (hot : ∀ k x, k ≠ b → W.heap[k]? = some x → W'.heap[k]? = some x) (hne : g ≠ b) (hz : W.heap.size ≤ W'.heap.size) : OwnI B xs g c W' := by
  refine ⟨h.1, Nat.lt_of_lt_of_le h.2.1 hz, h.2.2.1, ?_⟩
  rcases h.2.2.2 with h4 | ⟨g', cap, cur, e, h5, h6, h7⟩
  · exact .inl h4
  · cases e
    exact .inr ⟨g, c, cur, rfl, h5, hot _ _ hne h6, h7⟩
open Go.RowKit
def OwnV (T : TypeId) (z B : Nat) (cs : List Value) (n : Nat) (a : Option Addr) (c : Nat) (W : World) : Prop :=
  B ≤ W.heap.size ∧ (∀ x, a = some x → B ≤ x.block ∧ x.block < W.heap.size) ∧ W.ownsRow B T z (.slice a n c) n cs
theorem OwnV.below {T : TypeId} {z B n c : Nat} {cs : List Value} {a : Option Addr} {W W' : World} (h : OwnV T z B cs n a c W) (hb : Below W.heap.size W W') : OwnV T z B cs n a c W' :=
  ⟨Nat.le_trans h.1 hb.size, fun x e => ⟨(h.2.1 x e).1, Nat.lt_of_lt_of_le (h.2.1 x e).2 hb.size⟩, own_below h.2.2 hb⟩
theorem add_plain' (b o k : Nat) : ((⟨b, o, none⟩ : Addr).add k) = ⟨b, o + k, none⟩ := by unfold Addr.add; split <;> simp_all
theorem growV_tail {w W : World} (sl ty T : TypeId) (z by_ : Nat) (zero : Value) (hu : Try.prog.underlying sl = some (.slice T)) (hi : (Try.prog.info? T).map (fun i => (i.zero, i.size, i.bytes)) = some (some zero, z, by_)) (hzz : decide (0 < z ∧ zero.cells.size = z) = true)
    {B n c : Nat} {cs : List Value} {a : Option Addr} (ys : List Value) (m : Nat) {b off k c' : Nat} (es : List Value) (hB : Below w.heap.size w W) (hown : OwnV T z B cs n a c W) (hys : cs ++ es = ys) (hm : n + k = m) (hBw : w.heap.size ≤ B)
    (hel : decide (es.length = k * z ∧ 0 < k) = true) (h1 : es.all (·.oneCell') = true) (hb : ∀ j u, es[j]? = some u → W.cell? ⟨b, off + j, none⟩ = some u) (hn : (n + k) * (by_ + 1) ≤ 1000000000) :
    ∃ g' c2 W', (Builtin.append_ #[sl, sl] ty #[.slice a n c, .slice (some ⟨b, off, none⟩) k c']).run Try.prog W = .ok (.slice (some ⟨g', 0, none⟩) m c2) W' ∧
      OwnV T z B ys m (some ⟨g', 0, none⟩) c2 W' ∧ (∀ k y, k < B → W.heap[k]? = some y → W'.heap[k]? = some y) ∧ W.heap.size ≤ W'.heap.size ∧ Below w.heap.size w W' := by
  subst hys hm
  obtain ⟨hz0, hzs⟩ := of_decide_eq_true hzz
  obtain ⟨hel, hk⟩ := of_decide_eq_true hel
  obtain ⟨i0, hi, hz0', hz1, hz2⟩ := info_parts hi
  have hnk : n + k ≤ (n + k) * (by_ + 1) := Nat.le_mul_of_pos_right _ (Nat.succ_pos _)
  have hnb : (n + k) * by_ ≤ (n + k) * (by_ + 1) := Nat.mul_le_mul_left _ (Nat.le_succ _)
  obtain ⟨g', c2, W', hr, h2, h3, h4, h5⟩ := run_append_lies (P := Try.prog) W sl ty B T i0 zero z by_ hu hi hz0' hz1 hz2 hzs hz0 _ n cs hown.2.2
    ⟨b, off, none⟩ k c' es hel (fun j u hj => by rw [add_plain']; exact hb j u hj) (fun u hu => List.all_eq_true.1 h1 u hu) hk (by unfold maxLen; omega) (by omega) hown.1 _ rfl
  have hle : B ≤ g' := by
    rcases h4 with h4 | h4
    · cases a with
      | none => cases h4
      | some x =>
        have := hown.2.1 x rfl
        have e : x.block = g' := by simpa [Value.ownBlock] using h4
        omega
    · have := hown.1; omega
  refine ⟨g', c2, W', hr, ⟨Nat.le_trans hown.1 h3.size, fun x e => by cases e; exact ⟨hle, h5⟩, h2⟩, fun k y hk hy => ?_, h3.size, hB.grown h3 hB.size fun k e => ?_⟩
  · rw [h3.block k (by
      rcases Nat.lt_or_ge k W.heap.size with h | h
      · exact h
      · rw [Array.getElem?_eq_none h] at hy; cases hy) (fun e => by
        cases a with
        | none => cases e
        | some x =>
          have := hown.2.1 x rfl
          have e' : k = x.block := by simpa [Value.ownBlock] using e
          omega)]
    exact hy
  · cases a with
    | none => cases e
    | some x =>
      have := hown.2.1 x rfl
      have e' : x.block = k := by simpa [Value.ownBlock] using e
      omega
def iis (l : List Int) : List Value := l.map (Value.int .i64)
theorem iis_snoc (l : List Int) (x : Int) : iis l ++ [.int .i64 x] = iis (l ++ [x]) := by simp [iis]
theorem cells_at {W : World} {b : Nat} {cs : Array Value} {T : TypeId} (h : W.heap[b]? = some (.cells cs T (0, 0))) : ∀ j u, cs.toList[j]? = some u → W.cell? ⟨b, 0 + j, none⟩ = some u := by
  intro j u hj
  rw [Joins.cell_of_block h (0 + j), Nat.zero_add]
  simpa using hj
open Go.RowKit
def OwI (B : Nat) (xs : List Int) (n : Nat) (v : Value) (W : World) : Prop := ∃ g c, v = .slice (some ⟨g, 0, none⟩) n c ∧ OwnI B xs g c W
theorem OwI.below {B n : Nat} {xs : List Int} {v : Value} {W W' : World} (h : OwI B xs n v W) (hb : Below W.heap.size W W') : OwI B xs n v W' := by
  obtain ⟨g, c, e, h⟩ := h
  exact ⟨g, c, e, h.below hb⟩
theorem OwI.lt {B n : Nat} {xs : List Int} {v : Value} {W : World} (h : OwI B xs n v W) {g m c : Nat} (e : v = .slice (some ⟨g, 0, none⟩) m c) : g < W.heap.size := by
  obtain ⟨g', c', e', h⟩ := h
  rw [e] at e'
  simp only [Value.slice.injEq, Option.some.injEq, Addr.mk.injEq, and_true] at e'
  obtain ⟨rfl, -⟩ := e'
  exact h.2.1
def OwIP (xs : List Int) (n : Nat) (w : World) (e : Ending) (w' : World) : Prop := ∃ v, e = .returned v ∧ OwI w.heap.size xs n v w' ∧ Below w.heap.size w w'
theorem OwnI.lim {B : Nat} {xs : List Int} {g c : Nat} {W : World} (h : OwnI B xs g c W) : B ≤ g ∧ g < W.heap.size := ⟨h.1, h.2.1⟩
theorem OwnI.cell {B : Nat} {xs : List Int} {g c : Nat} {W : World} (h : OwnI B xs g c W) {i : Nat} (hi : i < xs.length) : W.cell? ⟨g, i, none⟩ = some (.int .i64 (xs.getD i 0)) := by
  obtain ⟨b, off, e, -, hc⟩ := h.ii.at (by omega)
  cases e
  have := hc i hi
  rwa [Nat.zero_add] at this
theorem Behind.two {R : Nat → Value → (Nat → Nat) → World → Prop} {w : World} {n : Nat} {f : Nat → Value} {s : Nat → Nat} {W : World} (h : Behind R w n f s W) (i j : Nat) (hi : i < n) (hj : j < n) (hij : i ≠ j) {g g' : Nat}
    (hg : s i ≤ g) (hg' : s j ≤ g') (h1 : ∀ W, R i (f i) s W → g < W.heap.size) (h2 : ∀ W, R j (f j) s W → g' < W.heap.size) : g ≠ g' := by
  obtain ⟨t, ht, hd⟩ := h.apart
  obtain ⟨a, b, W1, r1, z1⟩ := ht i hi
  obtain ⟨c, d, W2, r2, z2⟩ := ht j hj
  have := h1 _ r1; have := h2 _ r2
  have := hd i j hi hj hij
  omega
theorem ownsRow_low {W : World} {B B' : Nat} {T : TypeId} {z n : Nat} {v : Value} {xs : List Value} (h : W.ownsRow B T z v n xs) (hB : B' ≤ B) : W.ownsRow B' T z v n xs := by
  refine ⟨h.1, ?_⟩
  rcases h.2 with h | ⟨g, cap, cur, e, h1, h2⟩
  · exact .inl h
  · exact .inr ⟨g, cap, cur, e, Nat.le_trans hB h1, h2⟩
theorem OwnI.low {B B' : Nat} {xs : List Int} {g c : Nat} {W : World} (h : OwnI B xs g c W) (hB : B' ≤ B) : OwnI B' xs g c W := ⟨Nat.le_trans hB h.1, h.2.1, ownsRow_low h.2.2 hB⟩
theorem cloneO_run (ty : TypeId) (W : World) (g : Nat) (a : Option Addr) (c : Nat) (xs : List Int) (n : Nat) (h : Ii W a n c xs) (hn : n ≤ 1000) (hne : 0 < n) (hg : W.heap[g]? = some (.cells #[] 3 (0, 0))) :
    ∃ v W', (Builtin.append_ #[39, 39] ty #[.slice (some ⟨g, 0, none⟩) 0 0, .slice a n c]).run Try.prog W = .ok v W' ∧ Below W.heap.size W W' ∧ OwI W.heap.size xs n v W' := by
  obtain ⟨i0, hi, hz0, hz1, hz2⟩ := info_parts Try.info3x
  have hg' : g < W.heap.size := ltb hg
  obtain rfl := h.1
  obtain ⟨b, off, rfl, hb, hc⟩ := h.at hne
  obtain ⟨v, W', hr, hown, hgr⟩ := run_append_arg_grows (P := Try.prog) W 39 ty 3 i0 (.int .i64 0) 1 8 Try.underlying39 hi hz0 hz1 hz2 rfl (by decide) ⟨g, 0, none⟩ 0 0 [] rfl (fun j u hj => by simp at hj) ⟨b, off, none⟩ xs.length c (xs.map (Value.int .i64)) (by simp)
    (fun j u hj => by
      have hj' : j < xs.length := by
        rcases Nat.lt_or_ge j xs.length with h' | h'
        · exact h'
        · rw [List.getElem?_eq_none (by simpa using h')] at hj; cases hj
      rw [show ((⟨b, off, none⟩ : Addr).add j) = ⟨b, off + j, none⟩ from by unfold Addr.add; split <;> simp_all, hc j hj']
      simp [List.getElem?_map, hj'] at hj
      subst hj
      simp [List.getD_eq_getElem?_getD, hj'])
    (by omega) (by unfold maxLen; omega) (by omega)
  obtain ⟨g2, cap2, rfl⟩ := Joins.ownsRow_form hown (by omega)
  simp only [Nat.zero_add, List.nil_append] at hown hr
  exact ⟨_, W', hr, (Below.refl _ _).grown hgr (Nat.le_refl _) (fun k e => by cases e), g2, cap2, rfl, own_ge hown g2 rfl, own_lt' hown, hown⟩
theorem take_set_cells {cs : List Value} {xs : List Int} (h : cs.take xs.length = xs.map (Value.int .i64)) (i : Nat) (hi : i < xs.length) (x : Int) (hl : xs.length ≤ cs.length) :
    (cs.take i ++ [Value.int .i64 x] ++ cs.drop (i + 1)).take xs.length = (xs.set i x).map (Value.int .i64) := by
  have e : cs.take i ++ [Value.int .i64 x] ++ cs.drop (i + 1) = cs.set i (Value.int .i64 x) := by
    rw [List.set_eq_take_append_cons_drop, if_pos (by omega)]; simp
  rw [e, List.take_set, h, List.map_set]
theorem storeI_tail {w W : World} {xs : List Int} (ys : List Int) {g c : Nat} {i : Nat} {x : Int} (hi : i < xs.length) (hys : xs.set i x = ys) (hB : Below w.heap.size w W) (hown : OwnI w.heap.size xs g c W) :
    ∃ W', (∀ {a : Act} {dst : Option Nat} {tt : TypeId} {X Y : Operand} {pos : String} {af : Array Edge} {gd : Option (Nat × Bool)}, a.eval X = .pointer (some ⟨g, i, none⟩) → a.eval Y = .int .i64 x → (execOp a.eval { dst := dst, op := .store 3 X Y, type := tt, pos := pos, after := af, guard := gd }).run Try.prog W = .ok .skip W') ∧
      OwnI w.heap.size ys g c W' ∧ (∀ k y, k ≠ g → W.heap[k]? = some y → W'.heap[k]? = some y) ∧ W.heap.size ≤ W'.heap.size ∧ Below w.heap.size w W' := by
  subst hys
  obtain ⟨hg, hlt, hl, hr⟩ := hown
  rcases hr with ⟨h, -⟩ | ⟨g', cap, cur, e, h1, h2, h3, h4, h5, h6⟩
  · cases h
  · cases e
    simp only [Nat.mul_one] at h5 h6
    have hsz : i + 1 ≤ cur.size := by omega
    refine ⟨W.setRow g (cur.toList.take i ++ [Value.int .i64 x] ++ cur.toList.drop (i + 1)).toArray, fun hX hY => ?_, ⟨hg, ?_, ?_, .inr ⟨g, _, _, ?_, h1, setRow_heap W g cur _ _ (0, 0) h2, ?_, h4, ?_, ?_⟩⟩, fun k y hk hy => by rw [setRow_other W g k _ hk]; exact hy, by rw [setRow_size]; exact Nat.le_refl _, below_setRow hB hg _⟩
    · exact run_seg (v := .int .i64 x) rfl hX hY h2 (by kernel_rfl) (by simpa [Value.cells] using hsz) rfl (by simp [Value.cells])
    · rw [setRow_size]; exact hlt
    · simp
    · simp
    · simpa using h3
    · simp; omega
    · simp only [Nat.mul_one, List.length_set]
      rw [List.toList_toArray]
      exact take_set_cells h6 i hi x (by show xs.length ≤ cur.size; rw [h5]; exact h3)
def OwBlk (B : Nat) (b : Bl) (v : Value) (W : World) : Prop :=
  ∃ g1 c1 g2 c2 g3 c3, v = .agg #[.int .i64 b.tab, .slice (some ⟨g1, 0, none⟩) b.panels.length c1, .int .i64 b.height, .slice (some ⟨g2, 0, none⟩) b.top.length c2, .slice (some ⟨g3, 0, none⟩) b.bottom.length c3, .int .i64 b.slot, .bool b.isOpen] ∧
    OwnI B b.panels g1 c1 W ∧ OwnI B b.top g2 c2 W ∧ OwnI B b.bottom g3 c3 W ∧ g1 ≠ g2 ∧ g1 ≠ g3 ∧ g2 ≠ g3
theorem OwBlk.below {B : Nat} {b : Bl} {v : Value} {W W' : World} (h : OwBlk B b v W) (hb : Below W.heap.size W W') : OwBlk B b v W' := by
  obtain ⟨g1, c1, g2, c2, g3, c3, e, h1, h2, h3, hn⟩ := h
  exact ⟨g1, c1, g2, c2, g3, c3, e, h1.below hb, h2.below hb, h3.below hb, hn⟩
theorem OwBlk.lt {B : Nat} {b : Bl} {v : Value} {W : World} (h : OwBlk B b v W) {x1 x2 x3 x4 : Value} {g1 g2 g3 n1 n2 n3 c1 c2 c3 : Nat} (e : v = .agg #[x1, .slice (some ⟨g1, 0, none⟩) n1 c1, x2, .slice (some ⟨g2, 0, none⟩) n2 c2, .slice (some ⟨g3, 0, none⟩) n3 c3, x3, x4]) : g1 < W.heap.size ∧ g2 < W.heap.size ∧ g3 < W.heap.size := by
  obtain ⟨h1, d1, h2, d2, h3, d3, e', m1, m2, m3, -⟩ := h
  rw [e] at e'
  simp only [Value.agg.injEq, Array.mk.injEq, List.cons.injEq, Value.slice.injEq, Option.some.injEq, Addr.mk.injEq, and_true] at e'
  obtain ⟨-, ⟨rfl, -⟩, -, ⟨rfl, -⟩, ⟨rfl, -⟩, -, -⟩ := e'
  exact ⟨m1.2.1, m2.2.1, m3.2.1⟩
def OwBlkP (b : Bl) (w : World) (e : Ending) (w' : World) : Prop := ∃ v, e = .returned v ∧ OwBlk w.heap.size b v w' ∧ Below w.heap.size w w'
open Go.RowKit
structure Pa where
  kind : Int
  weight : Int
  t1 : Int
  t2 : Int
  m1 : Int
  m2 : Int
  price : Int
  strong : Int
structure Fu where
  pitch : Int
  draw : Int
  h1 : Int
  h2 : Int
structure PaIn (p : Pa) : Prop where
  kind : p.kind = 1 ∨ p.kind = 2
  weight : 1 ≤ p.weight ∧ p.weight ≤ 1000
  thick : 1 ≤ p.t1 ∧ p.t1 ≤ p.t2 ∧ p.t2 ≤ 1000
  moist : 0 ≤ p.m1 ∧ p.m1 ≤ p.m2 ∧ p.m2 ≤ 200
  price : 0 ≤ p.price ∧ p.price ≤ 1000000
  strong : 0 ≤ p.strong ∧ p.strong ≤ 10000
structure FuIn (q : Fu) : Prop where
  pitch : 1000 ≤ q.pitch ∧ q.pitch ≤ 10000
  draw : q.pitch ≤ q.draw ∧ q.draw ≤ 2 * q.pitch
  high : 1 ≤ q.h1 ∧ q.h1 ≤ q.h2 ∧ q.h2 ≤ 10000
def PaR (W : World) (b o n : Nat) (ps : Nat → Pa) : Prop := b < W.heap.size ∧ ∀ i, i < n → W.cell? ⟨b, o + i * 8, none⟩ = some (.int .i64 (ps i).kind) ∧ W.cell? ⟨b, o + i * 8 + 1, none⟩ = some (.int .i64 (ps i).weight) ∧ W.cell? ⟨b, o + i * 8 + 2, none⟩ = some (.int .i64 (ps i).t1) ∧ W.cell? ⟨b, o + i * 8 + 3, none⟩ = some (.int .i64 (ps i).t2) ∧ W.cell? ⟨b, o + i * 8 + 4, none⟩ = some (.int .i64 (ps i).m1) ∧ W.cell? ⟨b, o + i * 8 + 5, none⟩ = some (.int .i64 (ps i).m2) ∧ W.cell? ⟨b, o + i * 8 + 6, none⟩ = some (.int .i64 (ps i).price) ∧ W.cell? ⟨b, o + i * 8 + 7, none⟩ = some (.int .i64 (ps i).strong)
def FuR (W : World) (b o n : Nat) (qs : Nat → Fu) : Prop := b < W.heap.size ∧ ∀ i, i < n → W.cell? ⟨b, o + i * 4, none⟩ = some (.int .i64 (qs i).pitch) ∧ W.cell? ⟨b, o + i * 4 + 1, none⟩ = some (.int .i64 (qs i).draw) ∧ W.cell? ⟨b, o + i * 4 + 2, none⟩ = some (.int .i64 (qs i).h1) ∧ W.cell? ⟨b, o + i * 4 + 3, none⟩ = some (.int .i64 (qs i).h2)
theorem PaR.below {W W' : World} {b o n : Nat} {ps : Nat → Pa} (h : PaR W b o n ps) (hb : Below W.heap.size W W') : PaR W' b o n ps :=
  ⟨Nat.lt_of_lt_of_le h.1 hb.size, fun i hi => by
    obtain ⟨e0, e1, e2, e3, e4, e5, e6, e7⟩ := h.2 i hi
    exact ⟨(hb.cell (p := ⟨b, o + i * 8, none⟩) h.1).trans e0, (hb.cell (p := ⟨b, o + i * 8 + 1, none⟩) h.1).trans e1, (hb.cell (p := ⟨b, o + i * 8 + 2, none⟩) h.1).trans e2, (hb.cell (p := ⟨b, o + i * 8 + 3, none⟩) h.1).trans e3, (hb.cell (p := ⟨b, o + i * 8 + 4, none⟩) h.1).trans e4, (hb.cell (p := ⟨b, o + i * 8 + 5, none⟩) h.1).trans e5, (hb.cell (p := ⟨b, o + i * 8 + 6, none⟩) h.1).trans e6, (hb.cell (p := ⟨b, o + i * 8 + 7, none⟩) h.1).trans e7⟩⟩
theorem FuR.below {W W' : World} {b o n : Nat} {qs : Nat → Fu} (h : FuR W b o n qs) (hb : Below W.heap.size W W') : FuR W' b o n qs :=
  ⟨Nat.lt_of_lt_of_le h.1 hb.size, fun i hi => by
    obtain ⟨e0, e1, e2, e3⟩ := h.2 i hi
    exact ⟨(hb.cell (p := ⟨b, o + i * 4, none⟩) h.1).trans e0, (hb.cell (p := ⟨b, o + i * 4 + 1, none⟩) h.1).trans e1, (hb.cell (p := ⟨b, o + i * 4 + 2, none⟩) h.1).trans e2, (hb.cell (p := ⟨b, o + i * 4 + 3, none⟩) h.1).trans e3⟩⟩
theorem within_all1 {lo hi x : Int} (h : lo ≤ x ∧ x ≤ hi) : within lo hi [x] = true := by
  unfold within; simp; omega
theorem within_all2 {lo hi x y : Int} (h : lo ≤ x ∧ x ≤ hi) (h' : lo ≤ y ∧ y ≤ hi) : within lo hi [x, y] = true := by
  unfold within; simp; omega
theorem span_yes {x y lo hi : Int} (h : lo ≤ x ∧ x ≤ y ∧ y ≤ hi) : isSpan (x, y) lo hi = true := by
  unfold isSpan; rw [within_all2 (by omega) (by omega)]; simp; omega
open Go.RowKit
def OwnR (T : TypeId) (z B n : Nat) (cs : List Value) (g c : Nat) (W : World) : Prop := B ≤ g ∧ g < W.heap.size ∧ W.ownsRow B T z (.slice (some ⟨g, 0, none⟩) n c) n cs
theorem OwnR.lim {T : TypeId} {z B n g c : Nat} {cs : List Value} {W : World} (h : OwnR T z B n cs g c W) : B ≤ g ∧ g < W.heap.size := ⟨h.1, h.2.1⟩
theorem OwnR.below {T : TypeId} {z B n g c : Nat} {cs : List Value} {W W' : World} (h : OwnR T z B n cs g c W) (hb : Below W.heap.size W W') : OwnR T z B n cs g c W' := by
  refine ⟨h.1, Nat.lt_of_lt_of_le h.2.1 hb.size, h.2.2.1, ?_⟩
  rcases h.2.2.2 with h4 | ⟨g', cap, cur, e, h5, h6, h7⟩
  · exact .inl h4
  · exact .inr ⟨g', cap, cur, e, h5, bwb h6 hb, h7⟩
theorem OwnR.other {T : TypeId} {z B n g c b : Nat} {cs : List Value} {W W' : World} (h : OwnR T z B n cs g c W) (hot : ∀ k x, k ≠ b → W.heap[k]? = some x → W'.heap[k]? = some x) (hne : g ≠ b) (hz : W.heap.size ≤ W'.heap.size) : OwnR T z B n cs g c W' := by
  refine ⟨h.1, Nat.lt_of_lt_of_le h.2.1 hz, h.2.2.1, ?_⟩
  rcases h.2.2.2 with h4 | ⟨g', cap, cur, e, h5, h6, h7⟩
  · exact .inl h4
  · cases e
    exact .inr ⟨g, c, cur, rfl, h5, hot _ _ hne h6, h7⟩
theorem OwnR.cell {T : TypeId} {z B n g c : Nat} {cs : List Value} {W : World} (h : OwnR T z B n cs g c W) (j : Nat) {u : Value} (hj : cs[j]? = some u) : W.cell? ⟨g, j, none⟩ = some u := by
  rcases h.2.2.2 with ⟨h4, -⟩ | ⟨g', cap, cur, e, h5, h6, h7, h8, h9, h10⟩
  · cases h4
  · cases e
    have e1 : cs[j]? = (cur.toList.take (n * z))[j]? := by rw [h10]
    rw [hj] at e1
    have hlt : j < n * z := by
      rcases Nat.lt_or_ge j (n * z) with h' | h'
      · exact h'
      · rw [List.getElem?_eq_none (by simp; omega)] at e1; cases e1
    rw [List.getElem?_take_of_lt hlt, Array.getElem?_toList] at e1
    rw [Joins.cell_of_block h6 j, ← e1]
theorem growR_tail {w W : World} (sl ty T : TypeId) (z by_ : Nat) (zero : Value) (hu : Try.prog.underlying sl = some (.slice T)) (hi : (Try.prog.info? T).map (fun i => (i.zero, i.size, i.bytes)) = some (some zero, z, by_)) (hzz : decide (0 < z ∧ zero.cells.size = z) = true)
    {n g c : Nat} {cs : List Value} (ys : List Value) (m : Nat) {b off k c' : Nat} (es : List Value) (hB : Below w.heap.size w W) (hown : OwnR T z w.heap.size n cs g c W) (hys : cs ++ es = ys) (hm : n + k = m)
    (hel : decide (es.length = k * z ∧ 0 < k) = true) (h1 : es.all (·.oneCell') = true) (hb : ∀ j u, es[j]? = some u → W.cell? ⟨b, off + j, none⟩ = some u) (hn : decide ((n + k) * (by_ + 1) ≤ 1000000000) = true) :
    ∃ g' c2 W', (Builtin.append_ #[sl, sl] ty #[.slice (some ⟨g, 0, none⟩) n c, .slice (some ⟨b, off, none⟩) k c']).run Try.prog W = .ok (.slice (some ⟨g', 0, none⟩) m c2) W' ∧
      OwnR T z w.heap.size m ys g' c2 W' ∧ (∀ k y, k ≠ g → W.heap[k]? = some y → W'.heap[k]? = some y) ∧ W.heap.size ≤ W'.heap.size ∧ (g' = g ∨ g' = W.heap.size) ∧ Below w.heap.size w W' := by
  subst hys hm
  have hn := of_decide_eq_true hn
  obtain ⟨hz0, hzs⟩ := of_decide_eq_true hzz
  obtain ⟨hel, hk⟩ := of_decide_eq_true hel
  obtain ⟨i0, hi, hz0', hz1, hz2⟩ := info_parts hi
  have hnk : n + k ≤ (n + k) * (by_ + 1) := Nat.le_mul_of_pos_right _ (Nat.succ_pos _)
  have hnb : (n + k) * by_ ≤ (n + k) * (by_ + 1) := Nat.mul_le_mul_left _ (Nat.le_succ _)
  obtain ⟨g', c2, W', hr, h2, h3, h4, h5⟩ := run_append_lies (P := Try.prog) W sl ty w.heap.size T i0 zero z by_ hu hi hz0' hz1 hz2 hzs hz0 _ n cs hown.2.2
    ⟨b, off, none⟩ k c' es hel (fun j u hj => by rw [add_plain']; exact hb j u hj) (fun u hu => List.all_eq_true.1 h1 u hu) hk (by unfold maxLen; omega) (by omega) hB.size _ rfl
  have h4' : g' = g ∨ g' = W.heap.size := by
    rcases h4 with h4 | h4
    · left; simpa [Value.ownBlock] using h4.symm
    · exact .inr h4
  refine ⟨g', c2, W', hr, ⟨?_, h5, h2⟩, fun k y hk hy => ?_, h3.size, h4', hB.grown h3 hB.size fun k e => ?_⟩
  · have := hown.1; have := hB.size; omega
  · rw [h3.block k (by
      rcases Nat.lt_or_ge k W.heap.size with h | h
      · exact h
      · rw [Array.getElem?_eq_none h] at hy; cases hy) (fun e => hk (by simpa [Value.ownBlock] using e))]
    exact hy
  · have : k = g := by simpa [Value.ownBlock] using e.symm
    have := hown.1; omega
theorem growR_nil {w W : World} (sl ty T : TypeId) (z by_ : Nat) (zero : Value) (hu : Try.prog.underlying sl = some (.slice T)) (hi : (Try.prog.info? T).map (fun i => (i.zero, i.size, i.bytes)) = some (some zero, z, by_)) (hzz : decide (0 < z ∧ zero.cells.size = z) = true)
    (m : Nat) {b off k c' : Nat} (es : List Value) (hB : Below w.heap.size w W) (hm : 0 + k = m)
    (hel : decide (es.length = k * z ∧ 0 < k) = true) (h1 : es.all (·.oneCell') = true) (hb : ∀ j u, es[j]? = some u → W.cell? ⟨b, off + j, none⟩ = some u) (hn : decide ((0 + k) * (by_ + 1) ≤ 1000000000) = true) :
    ∃ g' c2 W', (Builtin.append_ #[sl, sl] ty #[.slice none 0 0, .slice (some ⟨b, off, none⟩) k c']).run Try.prog W = .ok (.slice (some ⟨g', 0, none⟩) m c2) W' ∧
      OwnR T z w.heap.size m es g' c2 W' ∧ (∀ k y, k ≠ W.heap.size → W.heap[k]? = some y → W'.heap[k]? = some y) ∧ W.heap.size ≤ W'.heap.size ∧ g' = W.heap.size ∧ Below w.heap.size w W' := by
  subst hm
  have hn := of_decide_eq_true hn
  obtain ⟨hz0, hzs⟩ := of_decide_eq_true hzz
  obtain ⟨hel, hk⟩ := of_decide_eq_true hel
  obtain ⟨i0, hi, hz0', hz1, hz2⟩ := info_parts hi
  have hnk : 0 + k ≤ (0 + k) * (by_ + 1) := Nat.le_mul_of_pos_right _ (Nat.succ_pos _)
  have hnb : (0 + k) * by_ ≤ (0 + k) * (by_ + 1) := Nat.mul_le_mul_left _ (Nat.le_succ _)
  obtain ⟨g', c2, W', hr, h2, h3, h4, h5⟩ := run_append_lies (P := Try.prog) W sl ty w.heap.size T i0 zero z by_ hu hi hz0' hz1 hz2 hzs hz0 _ 0 [] (World.ownsRow_nil _ _ _ _)
    ⟨b, off, none⟩ k c' es hel (fun j u hj => by rw [add_plain']; exact hb j u hj) (fun u hu => List.all_eq_true.1 h1 u hu) hk (by unfold maxLen; omega) (by omega) hB.size _ rfl
  have h4' : g' = W.heap.size := by
    rcases h4 with h4 | h4
    · cases h4
    · exact h4
  refine ⟨g', c2, W', hr, ⟨?_, h5, by rw [List.nil_append] at h2; exact h2⟩, fun k y hk hy => ?_, h3.size, h4', hB.grown h3 hB.size fun k e => (by cases e)⟩
  · have := hB.size; omega
  · rw [h3.block k (by
      rcases Nat.lt_or_ge k W.heap.size with h | h
      · exact h
      · rw [Array.getElem?_eq_none h] at hy; cases hy) (fun e => (by cases e))]
    exact hy
theorem Try.infoP : (Try.prog.info? 103).map (fun i => (i.zero, i.size, i.bytes)) = some (some (.agg #[.int .i64 0, .int .i64 0, .int .i64 0, .int .i64 0, .int .i64 0, .int .i64 0, .int .i64 0, .int .i64 0]), 8, 64) := by kernel_rfl
theorem Try.infoF : (Try.prog.info? 105).map (fun i => (i.zero, i.size, i.bytes)) = some (some (.agg #[.int .i64 0, .int .i64 0, .int .i64 0, .int .i64 0]), 4, 32) := by kernel_rfl
open Go.RowKit Go.Shelf
structure KeepX (bn : Nat) (W W' : World) : Prop where
  os : W'.os = W.os
  tape : W'.tape = W.tape
  output : W'.output = W.output
  size : W.heap.size ≤ W'.heap.size
  block : ∀ k o, k ≠ bn → W.heap[k]? = some o → W'.heap[k]? = some o
theorem KeepX.refl (bn : Nat) (W : World) : KeepX bn W W := ⟨rfl, rfl, rfl, Nat.le_refl _, fun _ _ _ h => h⟩
theorem KeepX.trans {bn : Nat} {A B C : World} (h : KeepX bn A B) (k : KeepX bn B C) : KeepX bn A C :=
  ⟨k.os.trans h.os, k.tape.trans h.tape, k.output.trans h.output, Nat.le_trans h.size k.size, fun i o hi hx => k.block i o hi (h.block i o hi hx)⟩
theorem KeepX.of_below {bn : Nat} {A B : World} (h : Below A.heap.size A B) : KeepX bn A B :=
  ⟨h.os, h.tape, h.output, h.size, fun i o _ hx => (h.block i (Array.getElem?_eq_some_iff.1 hx).1).trans hx⟩
theorem KeepX.below {bn B : Nat} {A C : World} (h : KeepX bn A C) (hb : B ≤ bn) (hB : B ≤ A.heap.size) : Below B A C :=
  ⟨h.os, h.tape, h.output, h.size, fun k hk => by
    have hx : A.heap[k]? = some A.heap[k] := Array.getElem?_eq_getElem (by omega)
    rw [hx]; exact h.block k _ (by omega) hx⟩
theorem putObj_size (W : World) (l : Nat) (o : Obj) : (W.putObj l o).heap.size = W.heap.size := by simp [World.putObj]
theorem range_seq {n : Nat} {P : Program} {g : Operand} {ps : Array Tmp} {assign body : Code} {Q : Exit → Act → World → Prop} {a : Act} {w : World} {gf : Nat} {rcv lb : Array Value}
    (hg : a.eval g = .func (.func gf) rcv lb) (eg : ∀ args w, (callFunc gf args).run P w = .ok (.enter gf args) w) (m : Nat) (encs : Nat → Array Value) (hps : ∀ i, (encs i).size = ps.size) (bn : Nat)
    (I : Nat → World → Prop) (hIb : ∀ i W W', I i W → Below W.heap.size W W' → I i W') (hIp : ∀ i W l o, w.heap.size ≤ l → I i W → I i (W.putObj l o))
    (hit : ∀ (l : Nat) (W1 : World) (J : Nat → World → Prop), Below w.heap.size w W1 → (∀ i W W', J i W → Below W.heap.size W W' → J i W') →
      (∀ i W, i < m → J i W → YieldAt Fence.wide (n - 1 - 1) P l (encs i) W fun e W' => e = .returned (.bool true) ∧ J (i + 1) W' ∧ KeepX bn W W') → J 0 W1 →
      CallsIn Fence.wide (n - 1) P gf (rcv ++ #[.func (.yield l) #[] #[]] ++ lb) W1 fun e W' => (∃ v, e = .returned v) ∧ J m W')
    (h0 : I 0 w) (a₁ : Nat → Act)
    (hassign : ∀ (l i : Nat) (W : World) (K : Act → World → Prop), K (a₁ i) W → assign.wpIn (Fence.wide.inRound l) (n - 1 - 1) P (Exit.then K fun _ _ _ => False) { tmps := (ps.zip (encs i)).foldl (fun t (p, v) => t.setIfInBounds p v) a.tmps, defers := [] } W)
    (hbn : bn < w.heap.size)
    (hbody : ∀ (l i : Nat) (W : World), i < m → I i W → body.wpIn (Fence.wide.inRound l) (n - 1 - 1) P (fun e _ W' => e = .normal ∧ I (i + 1) W' ∧ KeepX bn W W') (a₁ i) W)
    (hdone : ∀ (D : Nat) (W : World), w.heap.size ≤ D → I m W → W.heap[D]? = some (.deferred (some [])) → Q .normal { a with defers := { target := .collected D, args := #[] } :: a.defers } W) :
    (Code.rangeFunc g ps assign body).wpIn Fence.wide n P Q a w := by
  refine wpIn_rangeFunc fun fn _ => ?_
  obtain ⟨rc, hrc⟩ : ∃ rc : LoopState → Option Code → Loop, ∀ st pe, rc st pe = { state := st, pending := pe, fn, tmps := a.tmps, params := ps, assign, body, defers := w.heap.size } := ⟨_, fun _ _ => rfl⟩
  obtain ⟨V, hV⟩ : ∃ V, (w.alloc (.deferred (some []))).alloc (.loop (rc .ready none)) = V := ⟨_, rfl⟩
  have hbV : Below w.heap.size w V := hV ▸ ((Below.refl _ w).alloc (Nat.le_refl _) _).alloc (by simp) _
  have hL : V.heap[w.heap.size + 1]? = some (.loop (rc .ready none)) := by
    rw [← hV]; have := World.alloc_heap_new (w.alloc (.deferred (some []))) (.loop (rc .ready none)); rwa [World.size_alloc] at this
  have hD : V.heap[w.heap.size]? = some (.deferred (some [])) := by
    rw [← hV]; exact (Below.heap_alloc _ _ _ (by simp)).trans (World.alloc_heap_new w _)
  refine ⟨w.heap.size + 1, [{ target := .collected w.heap.size, args := #[] }], V, { target := .fn (.func gf) lb, args := rcv ++ #[.func (.yield (w.heap.size + 1)) #[] #[]] }, V, gf, rcv ++ #[.func (.yield (w.heap.size + 1)) #[] #[]] ++ lb, V, ?_, ?_, fun _ _ => trivial, ?_, fun h => by simp [Fence.wide] at h, ?_⟩
  · rw [← hV, hrc]; exact run_enterLoop_outer _ _ _ _ _
  · simp only [resolve, hg]
    simp [go_sem]
  · simp [invoke, go_sem, eg]
  · have keep : ∀ {A B : World} {k : Nat} {o : Obj}, A.heap[k]? = some o → Below A.heap.size A B → B.heap[k]? = some o := fun hx hb => (hb.block _ (Array.getElem?_eq_some_iff.1 hx).1).trans hx
    refine (hit (w.heap.size + 1) V (fun i W => I i W ∧ W.heap[w.heap.size + 1]? = some (.loop (rc .ready none)) ∧ W.heap[w.heap.size]? = some (.deferred (some []))) hbV
      (fun i W W' h hb => ⟨hIb i W W' h.1 hb, keep h.2.1 hb, keep h.2.2 hb⟩) ?_ ⟨hIb 0 _ _ h0 hbV, hL, hD⟩).mono ?_
    · rintro i W hi ⟨hI, hl, hd⟩
      have hy := run_yield (P := P) (args := encs i) hl (by rw [hrc]; exact hps i)
      rw [hrc] at hy
      refine ⟨fn, _, assign, body, hy, roundIn_of_wpIn trivial (hassign _ i W _ ⟨_, run_beginRound hl (by rw [hrc]), ?_⟩)⟩
      obtain ⟨X, hX⟩ : ∃ X, W.putObj (w.heap.size + 1) (.loop { rc .ready none with state := .busy }) = X := ⟨_, rfl⟩
      rw [hX]
      have hlX : X.heap[w.heap.size + 1]? = some (.loop { rc .ready none with state := .busy }) := hX ▸ World.putObj_heap_same (Array.getElem?_eq_some_iff.1 hl).1
      have hoX : ∀ k, k ≠ w.heap.size + 1 → X.heap[k]? = W.heap[k]? := fun k hk => hX ▸ World.putObj_heap_other (fun e => hk e)
      have hIX : I i X := hX ▸ hIp i W _ _ (by omega) hI
      refine wpIn_mono (hbody _ i X hi hIX) ?_
      rintro e a3 Y ⟨rfl, hI3, hk⟩
      have hlY := hk.block _ _ (by omega) hlX
      have hr := run_endRound (P := P) none hlY
      obtain ⟨Z, hZ⟩ : ∃ Z, Y.putObj (w.heap.size + 1) (.loop { { rc .ready none with state := .busy } with state := if (none : Option Code).isNone then .ready else .done, pending := none }) = Z := ⟨_, rfl⟩
      rw [hZ] at hr
      have hlZ : Z.heap[w.heap.size + 1]? = some (.loop (rc .ready none)) := by
        rw [← hZ, World.putObj_heap_same (Array.getElem?_eq_some_iff.1 hlY).1, hrc]; rfl
      have hoZ : ∀ k, k ≠ w.heap.size + 1 → Z.heap[k]? = Y.heap[k]? := fun k hk => hZ ▸ World.putObj_heap_other (fun e => hk e)
      refine ⟨_, _, hr, rfl, ⟨hZ ▸ hIp _ Y _ _ (by omega) hI3, hlZ, ?_⟩, ?_⟩
      · rw [hoZ _ (by omega)]
        exact hk.block _ _ (by omega) ((hoX _ (by omega)).trans hd)
      · refine ⟨?_, ?_, ?_, ?_, fun k o hk2 hx => ?_⟩
        · rw [← hZ]; exact hk.os.trans (hX ▸ rfl)
        · rw [← hZ]; exact hk.tape.trans (hX ▸ rfl)
        · rw [← hZ]; exact hk.output.trans (hX ▸ rfl)
        · rw [← hZ, putObj_size]; have := hk.size; rw [← hX, putObj_size] at this; exact this
        · by_cases e : k = w.heap.size + 1
          · subst e; rw [hlZ, ← hl, hx]
          · rw [hoZ k e]; exact hk.block k o hk2 ((hoX k e).trans hx)
    · rintro e W2 ⟨⟨v, rfl⟩, hI, hl, hd⟩
      have hr := run_endLoop (P := P) hl (by rw [hrc]; simp)
      refine ⟨none, _, by rw [hr, hrc], hdone _ _ (Nat.le_refl _) (hIp _ _ _ _ (by omega) hI) ((World.putObj_heap_other (by omega)).trans hd)⟩
end Go.Proofs.Ytolnpbpeifpbjaa
