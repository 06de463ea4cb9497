/- Part of the proof: what the claim leans on. -/
import Derived.Test.YtcgccflcjejlhaaDAC
import Derived.Test.YtcgccflcjejlhaaDAG
import Derived.Test.YtcgccflcjejlhaaDAD
set_option linter.unusedSimpArgs false
set_option linter.unusedVariables false
namespace Go.Proofs.Ytcgccflcjejlhaa
open Go.RowKit
/-- The box b holds n numbers, place by place f. -/
def TabC (T : TypeId) (n : Nat) (f : Nat → Int) (b : Nat) (W : World) : Prop := ∃ cs : Array Value, W.heap[b]? = some (.cells cs T (0, 0)) ∧ cs.size = n ∧ ∀ i, i < n → cs[i]? = some (.int .i64 (f i))
theorem TabC.below {T : TypeId} {n b : Nat} {f : Nat → Int} {W W' : World} (h : TabC T n f b W) (hb : Below W.heap.size W W') : TabC T n f b W' := by
  obtain ⟨cs, h1, h2, h3⟩ := h; exact ⟨cs, blk_below h1 hb, h2, h3⟩
theorem TabC.lt {T : TypeId} {n b : Nat} {f : Nat → Int} {W : World} (h : TabC T n f b W) : b < W.heap.size := by
  obtain ⟨cs, h1, -⟩ := h; exact lt_of_blk h1
theorem TabC.other {T : TypeId} {n b k : Nat} {f : Nat → Int} {W W' : World} (h : TabC T n f b W) (hot : ∀ j x, j ≠ k → W.heap[j]? = some x → W'.heap[j]? = some x) (hne : b ≠ k) : TabC T n f b W' := by
  obtain ⟨cs, h1, h2, h3⟩ := h; exact ⟨cs, hot _ _ hne h1, h2, h3⟩
theorem TabC.cell {T : TypeId} {n b : Nat} {f : Nat → Int} {W : World} (h : TabC T n f b W) {i : Nat} (hi : i < n) : W.cell? ⟨b, i, none⟩ = some (.int .i64 (f i)) := by
  obtain ⟨cs, h1, h2, h3⟩ := h
  exact (Joins.cell_of_block h1 i).trans (h3 i hi)
theorem TabC.eq {T : TypeId} {n b : Nat} {f g : Nat → Int} {W : World} (h : TabC T n f b W) (e : ∀ i, i < n → f i = g i) : TabC T n g b W := by
  obtain ⟨cs, h1, h2, h3⟩ := h
  exact ⟨cs, h1, h2, fun i hi => by rw [← e i hi]; exact h3 i hi⟩
end Go.Proofs.Ytcgccflcjejlhaa
namespace Go.Proofs.Ytcgccflcjejlhaa
open Go.RowKit
/-- A block with its type, and what lies in it before the store and behind it. -/
structure Tg where
  b : Nat
  t : TypeId
  o : Array Value
  f : Array Value
section
variable {P : Program} {ops : Array Oper} {Q : Exit → Act → World → Prop} {l : List Tg}
end
end Go.Proofs.Ytcgccflcjejlhaa
namespace Go.Proofs.Ytcgccflcjejlhaa
open Go.RowKit
/-- The box b holds n values, place by place f. -/
def TabV (T : TypeId) (n : Nat) (f : Nat → Value) (b : Nat) (W : World) : Prop := ∃ cs : Array Value, W.heap[b]? = some (.cells cs T (0, 0)) ∧ cs.size = n ∧ ∀ i, i < n → cs[i]? = some (f i)
theorem TabV.below {T : TypeId} {n b : Nat} {f : Nat → Value} {W W' : World} (h : TabV T n f b W) (hb : Below W.heap.size W W') : TabV T n f b W' := by
  obtain ⟨cs, h1, h2, h3⟩ := h; exact ⟨cs, blk_below h1 hb, h2, h3⟩
theorem TabV.lt {T : TypeId} {n b : Nat} {f : Nat → Value} {W : World} (h : TabV T n f b W) : b < W.heap.size := by
  obtain ⟨cs, h1, -⟩ := h; exact lt_of_blk h1
theorem TabV.other {T : TypeId} {n b k : Nat} {f : Nat → Value} {W W' : World} (h : TabV T n f b W) (hot : ∀ j x, j ≠ k → W.heap[j]? = some x → W'.heap[j]? = some x) (hne : b ≠ k) : TabV T n f b W' := by
  obtain ⟨cs, h1, h2, h3⟩ := h; exact ⟨cs, hot _ _ hne h1, h2, h3⟩
theorem TabV.keepX {T : TypeId} {n b k : Nat} {f : Nat → Value} {W W' : World} (h : TabV T n f b W) (hk : KeepX k W W') (hne : b ≠ k) : TabV T n f b W' := h.other hk.block hne
theorem TabV.cell {T : TypeId} {n b : Nat} {f : Nat → Value} {W : World} (h : TabV T n f b W) {i : Nat} (hi : i < n) : W.cell? ⟨b, i, none⟩ = some (f i) := by
  obtain ⟨cs, h1, h2, h3⟩ := h
  exact (Joins.cell_of_block h1 i).trans (h3 i hi)
theorem TabV.eq {T : TypeId} {n b : Nat} {f g : Nat → Value} {W : World} (h : TabV T n f b W) (e : ∀ i, i < n → f i = g i) : TabV T n g b W := by
  obtain ⟨cs, h1, h2, h3⟩ := h
  exact ⟨cs, h1, h2, fun i hi => by rw [← e i hi]; exact h3 i hi⟩
theorem TabV.list {T : TypeId} {n b : Nat} {f : Nat → Value} {W : World} {cs : Array Value} (h : W.heap[b]? = some (.cells cs T (0, 0))) (hn : cs.size = n) (e : ∀ i, i < n → cs[i]? = some (f i)) : TabV T n f b W := ⟨cs, h, hn, e⟩
/-- One cell of a list is another one. -/
theorem seg_at {cs : Array Value} {n i : Nat} {x : Value} (hn : cs.size = n) (hi : i < n) (j : Nat) : (cs.toList.take i ++ #[x].toList ++ cs.toList.drop (i + 1)).toArray[j]? = if j = i then some x else cs[j]? := by
  have hl : (cs.toList.take i).length = i := by simp; omega
  have hg : (cs.toList.take i ++ #[x].toList ++ cs.toList.drop (i + 1)).toArray[j]? = (cs.toList.take i ++ [x] ++ cs.toList.drop (i + 1))[j]? := by simp
  rw [hg]
  rcases Nat.lt_trichotomy j i with h' | h' | h'
  · rw [List.append_assoc, List.getElem?_append_left (by omega), List.getElem?_take_of_lt h', if_neg (by omega)]; simp
  · subst h'
    rw [List.append_assoc, List.getElem?_append_right (by omega), hl, Nat.sub_self, if_pos rfl]; rfl
  · rw [List.append_assoc, List.getElem?_append_right (by omega), hl, if_neg (by omega)]
    obtain ⟨q, rfl⟩ : ∃ q, j = i + 1 + q := ⟨j - (i + 1), by omega⟩
    rw [show i + 1 + q - i = q + 1 by omega, List.singleton_append, List.getElem?_cons_succ, List.getElem?_drop]
    simp
theorem seg_size {cs : Array Value} {n i : Nat} {x : Value} (hn : cs.size = n) (hi : i < n) : (cs.toList.take i ++ #[x].toList ++ cs.toList.drop (i + 1)).toArray.size = n := by simp; omega
/-- A value is stored at place i. -/
theorem storeV_tail {P : Program} {w W : World} {T ty : TypeId} {n b : Nat} {f : Nat → Value} {i : Nat} {x : Value} (hi : i < n) (hB : Below w.heap.size w W) (h : TabV T n f b W) (hb : w.heap.size ≤ b) (hs : (P.info? ty).map (·.size) = some 1) (hx : x.cells = #[x]) (h1 : x.oneCell' = true) :
    ∃ W', (∀ (a : Act) (dst : Option Nat) (tt : TypeId) (p y : Operand) (pos : String) (af : Array Edge) (gd : Option (Nat × Bool)), a.eval p = .pointer (some ⟨b, i, none⟩) → a.eval y = x → (execOp a.eval { dst := dst, op := .store ty p y, type := tt, pos := pos, after := af, guard := gd }).run P W = .ok .skip W') ∧
      TabV T n (upd f i x) b W' ∧ (∀ k y, k ≠ b → W.heap[k]? = some y → W'.heap[k]? = some y) ∧ W.heap.size ≤ W'.heap.size ∧ Below w.heap.size w W' := by
  obtain ⟨cs, h1', h2, h3⟩ := h
  obtain ⟨fB, nb, ot, z⟩ := seg_facts (W' := W.setRow b (cs.toList.take i ++ #[x].toList ++ cs.toList.drop (i + 1)).toArray) rfl hB h1' hb
  refine ⟨_, fun a dst tt p y pos af gd hp hy => run_seg (v := x) rfl hp hy h1' (by rw [hx]; exact hs) (by rw [hx]; exact decide_eq_true (by show i + 1 ≤ cs.size; omega)) (by rw [hx]; simp [h1]) (by rw [hx]; rfl), ⟨_, nb, seg_size h2 hi, fun j hj => ?_⟩, ot, z, fB⟩
  rw [seg_at h2 hi]
  by_cases e : j = i
  · rw [if_pos e, e, upd_same]
  · rw [if_neg e, upd_other _ _ e]; exact h3 j hj
/-- Some places hold the new values already. -/
def MixV (T : TypeId) (n : Nat) (o f : Nat → Value) (b : Nat) (js : List Nat) (W : World) : Prop := ∃ cs : Array Value, W.heap[b]? = some (.cells cs T (0, 0)) ∧ cs.size = n ∧ (∀ i, i < n → cs[i]? = some (o i) ∨ cs[i]? = some (f i)) ∧ ∀ j ∈ js, cs[j]? = some (f j)
theorem MixV.below {T : TypeId} {n b : Nat} {o f : Nat → Value} {js : List Nat} {W W' : World} (h : MixV T n o f b js W) (hb : Below W.heap.size W W') : MixV T n o f b js W' := by
  obtain ⟨cs, h1, h2, h3⟩ := h; exact ⟨cs, blk_below h1 hb, h2, h3⟩
theorem mixV_start {T : TypeId} {n b : Nat} {o f : Nat → Value} {W : World} (h : TabV T n o b W) : MixV T n o f b [] W := by
  obtain ⟨cs, h1, h2, h3⟩ := h; exact ⟨cs, h1, h2, fun i hi => .inl (h3 i hi), fun _ h => nomatch h⟩
theorem mixV_both {T : TypeId} {n b j : Nat} {o f : Nat → Value} {js : List Nat} {W : World} (h : MixV T n o f b js W) (h' : MixV T n o f b [j] W) : MixV T n o f b (j :: js) W := by
  obtain ⟨cs, h1, h2, h3, h4⟩ := h
  obtain ⟨cs', h1', -, -, h4'⟩ := h'
  rw [h1] at h1'; cases h1'
  exact ⟨cs, h1, h2, h3, fun k hk => (List.mem_cons.1 hk).elim (fun e => e ▸ h4' j (by simp)) (h4 k)⟩
theorem mixV_end {T : TypeId} {n b : Nat} {o f : Nat → Value} {js : List Nat} {W : World} (h : MixV T n o f b js W) (e : ∀ i, i < n → i ∉ js → o i = f i) : TabV T n f b W := by
  obtain ⟨cs, h1, h2, h3, h4⟩ := h
  refine ⟨cs, h1, h2, fun i hi => ?_⟩
  by_cases hj : i ∈ js
  · exact h4 i hj
  · rcases h3 i hi with h | h
    · rw [h, e i hi hj]
    · exact h
def mixL (T : TypeId) (n : Nat) (o f : Nat → Value) (b : Nat) (js : List Nat) : List (World → Prop) := MixV T n o f b [] :: js.map fun j => MixV T n o f b [j]
theorem mixL_stay (T : TypeId) (n : Nat) (o f : Nat → Value) (b : Nat) (js : List Nat) : StayB (mixL T n o f b js) := by
  intro p hp a c hb h
  rcases List.mem_cons.1 hp with rfl | hp
  · exact h.below hb
  · obtain ⟨j, _, rfl⟩ := List.mem_map.1 hp
    exact h.below hb
section
variable {P : Program} {ops : Array Oper} {Q : Exit → Act → World → Prop}
theorem mixV_k {T : TypeId} {n : Nat} {o f : Nat → Value} {b : Nat} {js : List Nat} {ds : List (List Nat)} {i j : Nat} (hj : j ∈ js) : KeepsL (LeX (fun k => k = b) (mixL T n o f b js)) ds i (fun _ _ W => MixV T n o f b [j] W) :=
  ⟨fun _ _ _ _ hb h => hb.stay _ (List.mem_cons_of_mem _ (List.mem_map.2 ⟨j, hj, rfl⟩)) h, fun _ _ _ _ _ h => h⟩
theorem stoV_do {T : TypeId} {n : Nat} {o f : Nat → Value} {b : Nat} {js : List Nat} {i j : Nat} (hj : j ∈ js) (hjn : j < n) {a : Act} {W : World} {ty tt : TypeId} {x y : Operand} {pos : String} {af : Array Edge} (hw : MixV T n o f b [] W)
    (ho : ops[i]? = some { dst := none, op := .store ty x y, type := tt, pos := pos, after := af, guard := none }) (hp : a.eval x = .pointer (some ⟨b, j, none⟩)) (hy : a.eval y = f j) (hi : (P.info? ty).map (·.size) = some 1) (hc : (f j).cells = #[f j]) (h1 : (f j).oneCell' = true) :
    OpDoL (LeX (fun k => k = b) (mixL T n o f b js)) P ops Q i a W (fun _ W' => MixV T n o f b [j] W') := by
  obtain ⟨cs, hb, h2, h3, -⟩ := hw
  have hr := run_seg (P := P) (a := a) (dst := none) (ty := ty) (tt := tt) (x := x) (y := y) (pos := pos) (af := af) (gd := none) (v := f j) (W' := W.setRow b (cs.toList.take j ++ #[f j].toList ++ cs.toList.drop (j + 1)).toArray) rfl hp hy hb (by rw [hc]; exact hi) (by rw [hc]; exact decide_eq_true (by show j + 1 ≤ cs.size; omega)) (by rw [hc]; simp [h1]) (by rw [hc]; rfl)
  have hnew := setRow_heap W b cs (cs.toList.take j ++ #[f j].toList ++ cs.toList.drop (j + 1)).toArray T (0, 0) hb
  have key : ∀ ks : List Nat, (∀ k ∈ ks, k = j ∨ cs[k]? = some (f k)) → MixV T n o f b ks (W.setRow b (cs.toList.take j ++ #[f j].toList ++ cs.toList.drop (j + 1)).toArray) := fun ks hks => by
    refine ⟨_, hnew, seg_size h2 hjn, fun k hk => ?_, fun k hk => ?_⟩
    · rw [seg_at h2 hjn]
      by_cases e : k = j
      · rw [if_pos e, e]; exact .inr rfl
      · rw [if_neg e]; exact h3 k hk
    · rw [seg_at h2 hjn]
      by_cases e : k = j
      · rw [if_pos e, e]
      · rw [if_neg e]; exact (hks k hk).resolve_left e
  refine opDoL_skip ho ⟨rfl, rfl⟩ hr ⟨rfl, rfl, rfl, by rw [setRow_size]; exact Nat.le_refl _, fun k hk hn => setRow_other W b k _ fun e => hn e, fun p hp hpa => ?_⟩ (key [j] (fun k hk => .inl (List.mem_singleton.1 hk)))
  rcases List.mem_cons.1 hp with rfl | hp
  · exact key [] (fun _ h => nomatch h)
  · obtain ⟨k, hk, rfl⟩ := List.mem_map.1 hp
    obtain ⟨cs', hb', -, -, h4⟩ := hpa
    rw [hb] at hb'; cases hb'
    exact key [k] (fun q hq => by rw [List.mem_singleton.1 hq]; exact .inr (h4 k (by simp)))
end
end Go.Proofs.Ytcgccflcjejlhaa
