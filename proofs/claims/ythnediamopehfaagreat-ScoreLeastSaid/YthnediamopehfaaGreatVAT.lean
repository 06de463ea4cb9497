/- Part of the proof: what the claim leans on. -/
import Derived.ArgAppend
import Derived.Test.YthnediamopehfaaGreatVAA
import Derived.Test.YthnediamopehfaaGreatVAM
import Derived.Test.YthnediamopehfaaGreatVAK
import Derived.Test.YthnediamopehfaaGreatVAR
import Derived.Test.YthnediamopehfaaGreatVAS
set_option linter.unusedSimpArgs false
set_option linter.unusedVariables false
namespace Go.Proofs.YthnediamopehfaaGreat
open Go.RowKit
theorem run_appendOp {P : Program} {a : Act} {W W' : World} {dst : Option Nat} {s x : Operand} {t ty : TypeId} {pos : String} {af : Array Edge} {gd : Option (Nat × Bool)} {vs vx v : Value} (hs : a.eval s = vs) (hx : a.eval x = vx)
    (hr : (Builtin.append_ #[t, t] ty #[vs, vx]).run P W = .ok v W') :
    (execOp a.eval { dst := dst, op := .call { callee := .builtin .append, args := #[s, x], argTypes := #[t, t] }, type := ty, pos := pos, after := af, guard := gd }).run P W = .ok (.value v) W' := by
  simp only [execOp, resolve, invoke, builtin, Sem.run_bind, Sem.run_pure, Result.andThen_ok, List.map_toArray, List.map_cons, List.map_nil, hs, hx, hr]
theorem own_lt' {w : World} {base : Nat} {e : TypeId} {size g n cap : Nat} {xs : List Value} (h : w.ownsRow base e size (.slice (some ⟨g, 0, none⟩) n cap) n xs) : g < w.heap.size := by
  rcases h.2 with ⟨h', _⟩ | ⟨g', cap', cur, h', _, hg, _⟩
  · simp at h'
  · simp only [Value.slice.injEq, Option.some.injEq, Addr.mk.injEq, and_true, true_and] at h'
    obtain ⟨rfl, rfl⟩ := h'
    exact ltb hg
def NwBlk (B : Nat) (b : Bl) (v : Value) (W : World) : Prop :=
  ∃ g1 c1 g2 c2 g3 c3, v = .agg #[.int .i64 b.tab, .slice (some ⟨g1, 0, none⟩) b.panels.length c1, .int .i64 b.height, .slice (some ⟨g2, 0, none⟩) b.top.length c2, .slice (some ⟨g3, 0, none⟩) b.bottom.length c3, .int .i64 b.slot, .bool b.isOpen] ∧
    (Ii W (some ⟨g1, 0, none⟩) b.panels.length c1 b.panels ∧ B ≤ g1 ∧ g1 < W.heap.size) ∧ (Ii W (some ⟨g2, 0, none⟩) b.top.length c2 b.top ∧ B ≤ g2 ∧ g2 < W.heap.size) ∧ (Ii W (some ⟨g3, 0, none⟩) b.bottom.length c3 b.bottom ∧ B ≤ g3 ∧ g3 < W.heap.size)
theorem NwBlk.below {B : Nat} {b : Bl} {v : Value} {W W' : World} (h : NwBlk B b v W) (hb : Below W.heap.size W W') : NwBlk B b v W' := by
  obtain ⟨g1, c1, g2, c2, g3, c3, e, ⟨h1, l1, m1⟩, ⟨h2, l2, m2⟩, ⟨h3, l3, m3⟩⟩ := h
  exact ⟨g1, c1, g2, c2, g3, c3, e, ⟨h1.below hb (Nat.le_refl _), l1, Nat.lt_of_lt_of_le m1 hb.size⟩, ⟨h2.below hb (Nat.le_refl _), l2, Nat.lt_of_lt_of_le m2 hb.size⟩, ⟨h3.below hb (Nat.le_refl _), l3, Nat.lt_of_lt_of_le m3 hb.size⟩⟩
def NwBlkP (b : Bl) (w : World) (e : Ending) (w' : World) : Prop := ∃ v, e = .returned v ∧ NwBlk w.heap.size b v w' ∧ Below w.heap.size w w'
open Go.RowKit
theorem Tryz.info22y : (Tryz.prog.info? 22).map (fun i => (i.zero, i.size, i.bytes)) = some (some (.slice none 0 0), 1, 24) := by kernel_rfl
def TwoAt (g : Nat) (v0 v1 : Value) (W : World) : Prop := g < W.heap.size ∧ W.cell? ⟨g, 0, none⟩ = some v0 ∧ W.cell? ⟨g, 1, none⟩ = some v1
theorem TwoAt.below {g : Nat} {v0 v1 : Value} {W W' : World} (h : TwoAt g v0 v1 W) (hb : Below W.heap.size W W') : TwoAt g v0 v1 W' :=
  ⟨Nat.lt_of_lt_of_le h.1 hb.size, (hb.cell (p := ⟨g, 0, none⟩) h.1).trans h.2.1, (hb.cell (p := ⟨g, 1, none⟩) h.1).trans h.2.2⟩
theorem TwoAt.other {g b : Nat} {v0 v1 : Value} {W W' : World} (h : TwoAt g v0 v1 W) (hot : ∀ k x, k ≠ b → W.heap[k]? = some x → W'.heap[k]? = some x) (hne : g ≠ b) (hz : W.heap.size ≤ W'.heap.size) : TwoAt g v0 v1 W' := by
  have hx : W.heap[g]? = some (W.heap[g]'h.1) := Array.getElem?_eq_getElem h.1
  have e : W'.heap[g]? = W.heap[g]? := by rw [hot g _ hne hx, hx]
  exact ⟨Nat.lt_of_lt_of_le h.1 hz, (World.cell?_of_block (w := W) (w' := W') (a := ⟨g, 0, none⟩) e).trans h.2.1, (World.cell?_of_block (w := W) (w' := W') (a := ⟨g, 1, none⟩) e).trans h.2.2⟩
def IsTwo (B : Nat) (v0 v1 v : Value) (W : World) : Prop := ∃ g c, v = .slice (some ⟨g, 0, none⟩) 2 c ∧ TwoAt g v0 v1 W ∧ B ≤ g
theorem IsTwo.below {B : Nat} {v0 v1 v : Value} {W W' : World} (h : IsTwo B v0 v1 v W) (hb : Below W.heap.size W W') : IsTwo B v0 v1 v W' := by
  obtain ⟨g, c, e, h, hB⟩ := h; exact ⟨g, c, e, h.below hb, hB⟩
theorem grow2_run (ty : TypeId) (W : World) (g0 g1 : Nat) (v0 v1 : Value) (h0 : W.heap[g0]? = some (.cells #[v0] 22 (0, 0))) (h1 : W.heap[g1]? = some (.cells #[v1] 22 (0, 0))) (B : Nat) (hB : B ≤ W.heap.size) :
    ∃ v W', (Builtin.append_ #[152, 152] ty #[.slice (some ⟨g0, 0, none⟩) 1 1, .slice (some ⟨g1, 0, none⟩) 1 1]).run Tryz.prog W = .ok v W' ∧ Below W.heap.size W W' ∧ IsTwo B v0 v1 v W' := by
  obtain ⟨i0, hi, hz0, hz1, hz2⟩ := info_parts Tryz.info22y
  have cl : ∀ (g : Nat) (x : Value), W.heap[g]? = some (.cells #[x] 22 (0, 0)) → ∀ j u, [x][j]? = some u → W.cell? ((⟨g, 0, none⟩ : Addr).add j) = some u := by
    intro g x hg j u hj
    match j, hj with
    | 0, hj =>
      simp at hj; subst hj
      rw [show ((⟨g, 0, none⟩ : Addr).add 0) = ⟨g, 0, none⟩ from by unfold Addr.add; split <;> simp_all]
      exact Joins.cell_of_block hg 0
  obtain ⟨v, W', hr, hown, hgr⟩ := run_append_arg_grows (P := Tryz.prog) W 152 ty 22 i0 (.slice none 0 0) 1 24 Tryz.underlying152 hi hz0 hz1 hz2 rfl (by decide) ⟨g0, 0, none⟩ 1 1 [v0] rfl (cl g0 v0 h0) ⟨g1, 0, none⟩ 1 1 [v1] rfl (cl g1 v1 h1) (by decide) (by decide) (by decide)
  obtain ⟨g2, cap2, rfl⟩ := Joins.ownsRow_form hown (by decide)
  have c0 := hown.cellAt 0 (by decide)
  have c1 := hown.cellAt 1 (by decide)
  refine ⟨_, W', hr, (Below.refl _ _).grown hgr (Nat.le_refl _) (fun k e => by cases e), g2, _, rfl, ⟨own_lt' hown, ?_, ?_⟩, Nat.le_trans hB (own_ge hown g2 rfl)⟩
  · simpa using c0
  · simpa using c1
open Go.RowKit
end Go.Proofs.YthnediamopehfaaGreat
