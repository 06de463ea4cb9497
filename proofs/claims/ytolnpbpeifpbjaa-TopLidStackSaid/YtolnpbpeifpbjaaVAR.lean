/- Part of the proof: what the claim leans on. -/
import Derived.Test.YtolnpbpeifpbjaaVAI
import Derived.Test.YtolnpbpeifpbjaaVAM
set_option linter.unusedSimpArgs false
set_option linter.unusedVariables false
namespace Go.Proofs.Ytolnpbpeifpbjaa
open Go.RowKit
structure LeY (b : Nat) (T : TypeId) (F : Array Value) (A C : World) : Prop where
  keep : KeepX b A C
  box : ∀ cs, A.heap[b]? = some (.cells cs T (0, 0)) → C.heap[b]? = some (.cells cs T (0, 0)) ∨ C.heap[b]? = some (.cells F T (0, 0))
section
variable {b : Nat} {T : TypeId} {F : Array Value}
theorem LeY.refl (a : World) : LeY b T F a a := ⟨KeepX.refl _ _, fun _ h => .inl h⟩
theorem LeY.trans (a c d : World) (h : LeY b T F a c) (k : LeY b T F c d) : LeY b T F a d :=
  ⟨h.keep.trans k.keep, fun cs hx => by
    rcases h.box cs hx with e | e
    · exact k.box cs e
    · rcases k.box F e with e | e <;> exact .inr e⟩
theorem LeY.of_below (a c : World) (h : Below a.heap.size a c) : LeY b T F a c := ⟨KeepX.of_below h, fun _ hx => .inl (bwb hx h)⟩
theorem LeY.drew (a : World) : LeY b T F a a.drew := LeY.of_below _ _ (Below.refl _ _).drew
def stoY (b : Nat) (T : TypeId) (F : Array Value) : Rl := fun _ _ W => W.heap[b]? = some (.cells F T (0, 0))
theorem stoY_k {ds : List (List Nat)} {i : Nat} : KeepsL (LeY b T F) ds i (stoY b T F) := ⟨fun _ _ _ _ hb h => by rcases hb.box F h with e | e <;> exact e, fun _ _ _ _ _ h => h⟩
end
theorem stoY_do {P : Program} {ops : Array Oper} {Q : Exit → Act → World → Prop} {b : Nat} {T : TypeId} {F cs0 : Array Value} {i : Nat} {a : Act} {W0 W : World} {s : Nat → Nat} {ty tt : TypeId} {x y : Operand} {pos : String} {af : Array Edge} {v : Value}
    (ho : ops[i]? = some { dst := none, op := .store ty x y, type := tt, pos := pos, after := af, guard := none }) (hT : LeY b T F W0 W) (h0 : W0.heap[b]? = some (.cells cs0 T (0, 0))) (hx : a.eval x = .pointer (some ⟨b, 0, none⟩)) (hy : a.eval y = v) (hf : v.cells = F) (hn : cs0.size = F.size) (hi : (P.info? ty).map (·.size) = some F.size) (h1 : F.toList.all (·.oneCell') = true) :
    OpDoL (LeY b T F) P ops Q i a W (fun v W' => stoY b T F v (upd s i W.heap.size) W') := by
  obtain ⟨cs, hb, hsz⟩ : ∃ cs : Array Value, W.heap[b]? = some (.cells cs T (0, 0)) ∧ cs.size = F.size := by
    rcases hT.box cs0 h0 with e | e
    · exact ⟨_, e, hn⟩
    · exact ⟨_, e, rfl⟩
  subst hf
  have e : (cs.toList.take 0 ++ v.cells.toList ++ cs.toList.drop (0 + v.cells.size)).toArray = v.cells := by
    have : cs.toList.drop (0 + v.cells.size) = [] := List.drop_eq_nil_of_le (by simp; omega)
    rw [this]; simp
  have hr := run_seg (P := P) (a := a) (dst := none) (ty := ty) (tt := tt) (x := x) (y := y) (pos := pos) (af := af) (gd := none) (W' := W.setRow b v.cells) rfl hx hy hb hi (decide_eq_true (by omega)) h1 e
  have hnew := setRow_heap W b cs v.cells T (0, 0) hb
  exact opDoL_skip ho ⟨rfl, rfl⟩ hr ⟨⟨rfl, rfl, rfl, by rw [setRow_size]; exact Nat.le_refl _, fun k o hk hx => by rw [setRow_other W b k v.cells hk]; exact hx⟩, fun _ _ => .inr hnew⟩ hnew
end Go.Proofs.Ytolnpbpeifpbjaa
