/- Part of the proof: what the claim leans on. -/
import Derived.Test.YtiocklgakklkpaaNAH
import Derived.Test.YtiocklgakklkpaaNAC
import Derived.Test.YtiocklgakklkpaaNAA
import Derived.RangeFuncNested
import Derived.RangeFuncBound
import Derived.RangeFuncCalls
import Derived.RangeFuncLeaves
import Derived.Shelf.Abstract
import Derived.Shelf.RegionOpen
import Derived.WalkKit
import Derived.OwnWalkIn
import Derived.TacticsInMore
import Derived.LoopNIn
import Derived.LoopIn
import Derived.Test.YtiocklgakklkpaaNAB
set_option linter.unusedSimpArgs false
set_option linter.unusedVariables false
namespace Go.Proofs.Ytiocklgakklkpaa
open Go.RowKit
section
variable {P : Program} {ops : Array Oper} {Q : Exit → Act → World → Prop}
/-- One operation, with the relation Le between the worlds before and behind it. -/
def OpDoL (Le : World → World → Prop) (P : Program) (ops : Array Oper) (Q : Exit → Act → World → Prop) (i : Nat) (a : Act) (W : World) (R : Value → World → Prop) : Prop :=
  ∀ K : Act → World → Prop, (∀ v W', Le W W' → R v W' → K (a.put ((ops[i]?).bind (·.dst)) v) W') → wpOp P ops Q i K a W
theorem OpDo.l {Le : World → World → Prop} (hle : ∀ a b, Below a.heap.size a b → Le a b) {i : Nat} {a : Act} {W : World} {R : Value → World → Prop} (h : OpDo P ops Q i a W R) : OpDoL Le P ops Q i a W R :=
  fun K hK => h K fun v W' hb hR => hK v W' (hle _ _ hb) hR
theorem opDoL_value {Le : World → World → Prop} {i : Nat} {a : Act} {W W' : World} {R : Value → World → Prop} {o : Oper} {v : Value} (ho : ops[i]? = some o) (hg : o.guard = none) (hr : (execOp a.eval o).run P W = .ok (.value v) W') (hb : Le W W') (hR : R v W') : OpDoL Le P ops Q i a W R := by
  intro K hK
  unfold wpOp
  simp only [ho, Region.wanted, hg, if_true]
  refine .inl ?_
  unfold Oper.wp
  rw [hr]
  have := hK v W' hb hR
  rw [ho] at this
  exact this
def OpsDoL (Le : World → World → Prop) (P : Program) (ops : Array Oper) (Q : Exit → Act → World → Prop) (N : Nat) (al : List (Nat × Nat)) (g : Nat → Value) (R : Nat → Value → (Nat → Nat) → World → Prop) (w : World) (ds : List (List Nat)) : Nat → Nat → Prop
  | _, 0 => True
  | i, n + 1 => (∀ (f : Nat → Value) (s : Nat → Nat) (W : World), Le w W → (∀ j, (ds.getD i []).contains j = true → R j (f j) s W) → (∀ j, (ds.getD i []).contains j = true → w.heap.size ≤ s j) → (∀ p d, (ds.getD p []).contains i = true → al.contains (d, p) = true → f p = g d) → ∀ a, Holds' ops N (ov al f g) a → OpDoL Le P ops Q i a W (fun v W' => R i v (upd s i W.heap.size) W')) ∧ OpsDoL Le P ops Q N al g R w ds (i + 1) n
theorem opsDoL_at {Le : World → World → Prop} {N : Nat} {al : List (Nat × Nat)} {g : Nat → Value} {R : Nat → Value → (Nat → Nat) → World → Prop} {w : World} {ds : List (List Nat)} : ∀ (n i : Nat), OpsDoL Le P ops Q N al g R w ds i n → ∀ j, j < n →
    ∀ (f : Nat → Value) (s : Nat → Nat) (W : World), Le w W → (∀ k, (ds.getD (i + j) []).contains k = true → R k (f k) s W) → (∀ k, (ds.getD (i + j) []).contains k = true → w.heap.size ≤ s k) → (∀ p d, (ds.getD p []).contains (i + j) = true → al.contains (d, p) = true → f p = g d) → ∀ a, Holds' ops N (ov al f g) a → OpDoL Le P ops Q (i + j) a W (fun v W' => R (i + j) v (upd s (i + j) W.heap.size) W')
  | 0, _, _, _, hj => absurd hj (Nat.not_lt_zero _)
  | n + 1, i, h, 0, _ => h.1
  | n + 1, i, h, j + 1, hj => by
    have := opsDoL_at n (i + 1) h.2 j (by omega)
    rw [show i + 1 + j = i + (j + 1) by omega] at this
    exact this
def KeepsL (Le : World → World → Prop) (ds : List (List Nat)) (i : Nat) (r : Rl) : Prop :=
  (∀ v k W W', Le W W' → r v k W → r v k W') ∧ (∀ v s s' W, (∀ j ∈ i :: ds.getD i [], s j = s' j) → r v s W → r v s' W)
def StaysL (Le : World → World → Prop) (R : Nat → Rl) (ds : List (List Nat)) : Nat → Nat → Prop
  | _, 0 => True
  | i, n + 1 => KeepsL Le ds i (R i) ∧ StaysL Le R ds (i + 1) n
theorem staysL_at {Le : World → World → Prop} {R : Nat → Rl} {ds : List (List Nat)} : ∀ (n i : Nat), StaysL Le R ds i n → ∀ j, j < n → KeepsL Le ds (i + j) (R (i + j))
  | 0, _, _, _, hj => absurd hj (Nat.not_lt_zero _)
  | n + 1, i, h, 0, _ => h.1
  | n + 1, i, h, j + 1, hj => by
    have := staysL_at n (i + 1) h.2 j (by omega)
    rw [show i + 1 + j = i + (j + 1) by omega] at this
    exact this
structure BehindL (Le : World → World → Prop) (R : Nat → Value → (Nat → Nat) → World → Prop) (w : World) (n : Nat) (f : Nat → Value) (s : Nat → Nat) (W : World) : Prop where
  le : Le w W
  told : ∀ i, i < n → R i (f i) s W
  from' : ∀ i, i < n → w.heap.size ≤ s i
  apart : ∃ t : Nat → Nat, (∀ i, i < n → s i ≤ t i ∧ t i ≤ W.heap.size ∧ ∃ Wi : World, R i (f i) s Wi ∧ Wi.heap.size = t i) ∧ ∀ i j, i < n → j < n → i ≠ j → t i ≤ s j ∨ t j ≤ s i
theorem BehindL.is {Le : World → World → Prop} {l : List Rl} {w : World} {n : Nat} {f : Nat → Value} {s : Nat → Nat} {W : World} (h : BehindL Le (rel l) w n f s W) (i : Nat) (hi : decide (i < n) = true := by rfl) : rel l i (f i) s W := h.told i (of_decide_eq_true hi)
theorem BehindL.two {Le : World → World → Prop} {R : Nat → Value → (Nat → Nat) → World → Prop} {w : World} {n : Nat} {f : Nat → Value} {s : Nat → Nat} {W : World} (h : BehindL Le R w n f s W) (i j : Nat) (hi : i < n) (hj : j < n) (hij : i ≠ j) {g g' : Nat}
    (hg : s i ≤ g) (hg' : s j ≤ g') (h1 : ∀ W, R i (f i) s W → g < W.heap.size) (h2 : ∀ W, R j (f j) s W → g' < W.heap.size) : g ≠ g' := by
  obtain ⟨t, ht, hd⟩ := h.apart
  obtain ⟨a, b, W1, r1, z1⟩ := ht i hi
  obtain ⟨c, d, W2, r2, z2⟩ := ht j hj
  have := h1 _ r1; have := h2 _ r2
  have := hd i j hi hj hij
  omega
theorem region_doL {id : Nat} {draw : Bool} {N : Nat} {g : Nat → Value} {w : World} (Le : World → World → Prop) (hrefl : ∀ a, Le a a) (hdrew : ∀ a, Le a a.drew) (htrans : ∀ a b c, Le a b → Le b c → Le a c) (hsize : ∀ a b, Le a b → a.heap.size ≤ b.heap.size)
    (n : Nat) (al : List (Nat × Nat)) (ds : List (List Nat)) (R : Nat → Value → (Nat → Nat) → World → Prop)
    (hm : P.follows .mixedOrders = true) (hal : okSlots ops al = true) (hok : okWaits ops ds (if draw then n else ops.size) = true) (hn : decide (n ≤ ops.size) = true) (hst : StaysL Le R ds 0 n) (steps : OpsDoL Le P ops Q N al g R w ds 0 n)
    (fin : ∀ f s W, BehindL Le R w n f s W → wpOps P ops Q (List.range' n (ops.size - n)) (fr N (ov al f g)) W) :
    (Code.region id ops draw).wp P Q (fr N g) w := by
  obtain ⟨f0, hf0, hf1⟩ := ov_start (g := g) hal
  have h := wp_region_adds (P := P) (Q := Q) (id := id) (draw := draw) (w := w) (Le := Le) (R := fun i v s W => i < n → R i v s W) (mk := fun f => fr N (ov al f g)) n ds f0 hm hok hn
    hrefl hdrew htrans hsize
    (fun i v k W W' hle h hi => by have := (staysL_at n 0 hst i hi).1 v k W W' hle; rw [Nat.zero_add] at this; exact this (h hi))
    (fun i v s s' W he h hi => by have := (staysL_at n 0 hst i hi).2 v s s' W; rw [Nat.zero_add] at this; exact this he (h hi))
    ?_ ?_
  · simp only [hf0] at h; exact h
  · have key : ∀ m i, i + m = n → AddSteps P ops Q Le (fun i v k W => i < n → R i v k W) (fun f => fr N (ov al f g)) w f0 ds i m := by
      intro m
      induction m with
      | zero => intro i _; exact True.intro
      | succ m ih =>
        intro i him
        refine ⟨fun f s W hle hd hlate K hK => ?_, ih (i + 1) (by omega)⟩
        have hsz : i < ops.size := by have := of_decide_eq_true hn; omega
        have ho := Array.getElem?_eq_getElem hsz
        have hdo := opsDoL_at n 0 steps i (by omega) f s W hle
        rw [Nat.zero_add] at hdo
        have hdd : ∀ k, (ds.getD i []).contains k = true → R k (f k) s W ∧ w.heap.size ≤ s k := fun k hk => by
          have hk' : k ∈ ds.getD i [] := by simpa using hk
          have hlt := ((okWaits_at hok ho).1 k hk').1
          have := allIn_mem hd k hk'
          exact ⟨this.1 (by omega), this.2⟩
        refine hdo (fun k hk => (hdd k hk).1) (fun k hk => (hdd k hk).2) (fun p d hp hd' => (hlate p (by simpa using hp)).trans (hf1 (d, p) (by simpa using hd'))) _ (holds_fr _ _ _ _ _) K fun v W' hb hR => ?_
        have := hK v W' hb fun _ => hR
        rw [ho]
        simp only [Option.bind_some]
        rw [okSlots_at hal ho]
        exact this
    exact key n 0 (by omega)
  · rintro f s t W ⟨h1, h2, h3⟩
    exact fin f s W ⟨h1, fun i hi => (h2 i hi).1 hi, fun i hi => (h2 i hi).2.1, t, fun i hi => ⟨(h2 i hi).2.2.1, (h2 i hi).2.2.2.1, (h2 i hi).2.2.2.2.imp fun _ h => ⟨h.1 hi, h.2⟩⟩, fun i j hi hj => h3 i j hi hj⟩
end
/-- Nothing is changed but blocks of S, and what Ps says stays true. -/
structure LeX (S : Nat → Prop) (Ps : List (World → Prop)) (a b : World) : Prop where
  os : b.os = a.os
  tape : b.tape = a.tape
  output : b.output = a.output
  size : a.heap.size ≤ b.heap.size
  block : ∀ k, k < a.heap.size → ¬ S k → b.heap[k]? = a.heap[k]?
  stay : ∀ p ∈ Ps, p a → p b
section
variable {S : Nat → Prop} {Ps : List (World → Prop)}
theorem is_kl {Le : World → World → Prop} {ds : List (List Nat)} {i : Nat} {x : Value} : KeepsL Le ds i (is x) := ⟨fun _ _ _ _ _ h => h, fun _ _ _ _ _ h => h⟩
end
theorem OwnI.same {B : Nat} {xs : List Int} {g c : Nat} {W W' : World} (h : OwnI B xs g c W) (hz : W.heap.size ≤ W'.heap.size) (hb : W'.heap[g]? = W.heap[g]?) : OwnI B xs g c W' := by
  refine ⟨h.1, Nat.lt_of_lt_of_le h.2.1 hz, h.2.2.1, ?_⟩
  rcases h.2.2.2 with h4 | ⟨g', cap, cur, e, h5, h6, h7⟩
  · exact .inl h4
  · obtain ⟨e1, -, -⟩ := Value.slice.inj e
    cases e1
    exact .inr ⟨g, cap, cur, e, h5, hb.trans h6, h7⟩
end Go.Proofs.Ytiocklgakklkpaa
namespace Go.Proofs.Ytiocklgakklkpaa
open Go.RowKit
theorem ownI_lit {B b n : Nat} {xs : List Int} {W : World} (h : W.heap[b]? = some (.cells (xs.map (Value.int .i64)).toArray 3 (0, 0))) (hb : B ≤ b) (hn : n = xs.length) (hm : decide (n ≤ 1000) = true) : OwnI B xs b n W := by
  subst hn
  have hm' := of_decide_eq_true hm
  refine ⟨hb, lt_of_blk h, by simp, .inr ⟨b, xs.length, _, rfl, hb, h, Nat.le_refl _, by unfold maxLen; omega, by simp, by simp; rw [List.take_of_length_le (by simp)]⟩⟩
/-- A list of one's own and a block of something else. -/
theorem own_ne {B : Nat} {xs : List Int} {g c b : Nat} {W : World} {cs : Array Value} {T : TypeId} (h : OwnI B xs g c W) (hb : W.heap[b]? = some (.cells cs T (0, 0))) (hT : (T != 3) = true := by decide) : g ≠ b := by
  rintro rfl
  have hT' : T ≠ 3 := bne_iff_ne.1 hT
  rcases h.2.2.2 with ⟨e, -⟩ | ⟨g', cap, cur, e, -, h6, -⟩
  · cases e
  · cases e
    rw [hb] at h6
    simp only [Option.some.injEq, Obj.cells.injEq] at h6
    exact hT' h6.2.1
end Go.Proofs.Ytiocklgakklkpaa
namespace Go.Proofs.Ytiocklgakklkpaa
open Go.RowKit
theorem osure {P : Program} {ops : Array Oper} {Q : Exit → Act → World → Prop} {i j : Nat} {want : Bool} {a : Act} {W : World} {r : Value → World → Prop} {o : Oper} (ho : ops[i]? = some o) (hg : o.guard = some (j, want)) (hy : yielded ops a.tmps j = some want)
    (h : ∀ K : Act → World → Prop, (∀ v W', Below W.heap.size W W' → r v W' → K (a.put o.dst v) W') → o.wp P a W K Q) : OpDo P ops Q i a W r := by
  intro K hK
  unfold wpOp
  simp only [ho, Region.wanted, hg, hy]
  rw [ho] at hK
  rw [if_pos (by simp)]
  exact .inl (h K hK)
end Go.Proofs.Ytiocklgakklkpaa
namespace Go.Proofs.Ytiocklgakklkpaa
open Go.RowKit
/-- Nothing is changed but new blocks of the kind T; what G says of such a block's content stays said. -/
structure LeT (B : Nat) (T : TypeId) (G : Array Value → World → Prop) (a b : World) : Prop where
  os : b.os = a.os
  tape : b.tape = a.tape
  output : b.output = a.output
  size : a.heap.size ≤ b.heap.size
  block : ∀ k x, a.heap[k]? = some x → (k < B ∨ ∀ cs, x ≠ .cells cs T (0, 0)) → b.heap[k]? = some x
  kind : ∀ k cs, B ≤ k → a.heap[k]? = some (.cells cs T (0, 0)) → ∃ cs', b.heap[k]? = some (.cells cs' T (0, 0)) ∧ cs'.size = cs.size ∧ (G cs a → G cs' b)
/-- What G says stays while only new memory is written. -/
def GoodB (G : Array Value → World → Prop) : Prop := ∀ cs a b, Below a.heap.size a b → G cs a → G cs b
section
variable {B : Nat} {T : TypeId} {G : Array Value → World → Prop}
theorem LeT.refl (a : World) : LeT B T G a a := ⟨rfl, rfl, rfl, Nat.le_refl _, fun _ _ h _ => h, fun _ cs _ h => ⟨cs, h, rfl, fun g => g⟩⟩
theorem LeT.trans (a b c : World) (h : LeT B T G a b) (k : LeT B T G b c) : LeT B T G a c :=
  ⟨k.os.trans h.os, k.tape.trans h.tape, k.output.trans h.output, Nat.le_trans h.size k.size, fun i x hx hn => k.block i x (h.block i x hx hn) hn, fun i cs hi hx => by
    obtain ⟨cs1, h1, h2, h3⟩ := h.kind i cs hi hx
    obtain ⟨cs2, h4, h5, h6⟩ := k.kind i cs1 hi h1
    exact ⟨cs2, h4, h5.trans h2, fun g => h6 (h3 g)⟩⟩
theorem LeT.of_below (hG : GoodB G) (a b : World) (h : Below a.heap.size a b) : LeT B T G a b :=
  ⟨h.os, h.tape, h.output, h.size, fun k x hx _ => blk_below hx h, fun k cs _ hx => ⟨cs, blk_below hx h, rfl, fun g => hG cs a b h g⟩⟩
theorem LeT.drew (hG : GoodB G) (a : World) : LeT B T G a a.drew := LeT.of_below hG _ _ (Below.refl _ _).drew
theorem LeT.below {a b : World} (h : LeT B T G a b) (hB : B ≤ a.heap.size) : Below B a b :=
  ⟨h.os, h.tape, h.output, h.size, fun k hk => by
    have hx : a.heap[k]? = some a.heap[k] := Array.getElem?_eq_getElem (by omega)
    rw [hx]; exact h.block k _ hx (.inl hk)⟩
/-- A box of the kind T that is made. -/
def boxT (B : Nat) (T : TypeId) (n i : Nat) : Rl := fun v s W => v = .pointer (some ⟨(s i), 0, none⟩) ∧ B ≤ s i ∧ ∃ cs, W.heap[s i]? = some (.cells cs T (0, 0)) ∧ cs.size = n
theorem boxT_k {ds : List (List Nat)} {n i : Nat} : KeepsL (LeT B T G) ds i (boxT B T n i) :=
  ⟨fun _ _ _ _ hb h => by
    obtain ⟨h1, h2, cs, h3, h4⟩ := h
    obtain ⟨cs', h5, h6, -⟩ := hb.kind _ cs h2 h3
    exact ⟨h1, h2, cs', h5, h6.trans h4⟩, fun v s s' W e h => by have := e i (by simp); unfold boxT at *; rw [← this]; exact h⟩
/-- What is stored in it. -/
def stoT (B : Nat) (T : TypeId) (G : Array Value → World → Prop) (j : Nat) : Rl := fun _ s W => B ≤ s j ∧ ∃ cs, W.heap[s j]? = some (.cells cs T (0, 0)) ∧ G cs W
theorem stoT_k {ds : List (List Nat)} {i j : Nat} (hj : j ∈ i :: ds.getD i []) : KeepsL (LeT B T G) ds i (stoT B T G j) :=
  ⟨fun _ _ _ _ hb h => by
    obtain ⟨h2, cs, h3, h4⟩ := h
    obtain ⟨cs', h5, -, h6⟩ := hb.kind _ cs h2 h3
    exact ⟨h2, cs', h5, h6 h4⟩, fun v s s' W e h => by have := e j hj; unfold stoT at *; rw [← this]; exact h⟩
end
section
variable {P : Program} {ops : Array Oper} {Q : Exit → Act → World → Prop}
theorem opDoL_skip {Le : World → World → Prop} {i : Nat} {a : Act} {W W' : World} {R : Value → World → Prop} {o : Oper} (ho : ops[i]? = some o) (hg : o.guard = none ∧ o.dst = none) (hr : (execOp a.eval o).run P W = .ok .skip W') (hb : Le W W') (hR : R undef W') : OpDoL Le P ops Q i a W R := by
  intro K hK
  unfold wpOp
  simp only [ho, Region.wanted, hg.1, if_true]
  refine .inl ?_
  unfold Oper.wp
  rw [hr]
  have := hK undef W' hb hR
  rw [ho] at this
  simp only [Option.bind_some, hg.2] at this
  simp only [Oper.upon, hg.2]
  exact this
/-- The alloc of such a box. -/
theorem opT {B : Nat} {T : TypeId} {G : Array Value → World → Prop} {i n : Nat} {a : Act} {W : World} {s : Nat → Nat} {cs : Array Value} {o : Oper} (hG : GoodB G) (hB : B ≤ W.heap.size) (ho : ops[i]? = some o) (hg : o.guard = none) (hr : (execOp a.eval o).run P W = .ok (.value (.pointer (some ⟨W.heap.size, 0, none⟩))) (W.alloc (.cells cs T))) (hn : cs.size = n) :
    OpDoL (LeT B T G) P ops Q i a W (fun v W' => boxT B T n i v (upd s i W.heap.size) W') :=
  opDoL_value ho hg hr (LeT.of_below hG _ _ (balloc1 _ _)) ⟨by rw [upd_at], by rw [upd_at]; exact hB, cs, by rw [upd_at]; exact blk_new rfl, hn⟩
/-- The store. -/
theorem stoT_do {B : Nat} {T : TypeId} {G : Array Value → World → Prop} {i j n : Nat} {a : Act} {W : World} {s : Nat → Nat} {ty tt : TypeId} {x y : Operand} {pos : String} {af : Array Edge} {v : Value} (fin : Array Value) {g0 : Value}
    (ho : ops[i]? = some { dst := none, op := .store ty x y, type := tt, pos := pos, after := af, guard := none }) (hij : j ≠ i) (hbox : boxT B T n j g0 s W) (hx : a.eval x = .pointer (some ⟨(s j), 0, none⟩)) (hy : a.eval y = v) (hf : v.cells = fin) (hn : fin.size = n) (hi : (P.info? ty).map (·.size) = some n) (h1 : fin.toList.all (·.oneCell') = true) (hgood : G fin W) (hst : ∀ W', (∀ k x, k ≠ s j → W.heap[k]? = some x → W'.heap[k]? = some x) → W.heap.size ≤ W'.heap.size → G fin W → G fin W') (hst' : ∀ cs W', (∀ k x, k ≠ s j → W.heap[k]? = some x → W'.heap[k]? = some x) → W.heap.size ≤ W'.heap.size → (∃ cs0, W.heap[s j]? = some (.cells cs0 T (0, 0))) → G cs W → G cs W') :
    OpDoL (LeT B T G) P ops Q i a W (fun v W' => stoT B T G j v (upd s i W.heap.size) W') := by
  obtain ⟨-, hB, cs, hb, hsz⟩ := hbox
  subst hf
  have e : (cs.toList.take 0 ++ v.cells.toList ++ cs.toList.drop (0 + v.cells.size)).toArray = v.cells := by
    have : cs.toList.drop (0 + v.cells.size) = [] := List.drop_eq_nil_of_le (by simp; omega)
    rw [this]; simp
  have hr := run_seg (P := P) (a := a) (dst := none) (ty := ty) (tt := tt) (x := x) (y := y) (pos := pos) (af := af) (gd := none) (W' := W.setRow (s j) v.cells) rfl hx hy hb (by rw [hi, hn]) (decide_eq_true (by omega)) h1 e
  have hot : ∀ k x, k ≠ s j → W.heap[k]? = some x → (W.setRow (s j) v.cells).heap[k]? = some x := fun k x hk hx => by rw [setRow_other W (s j) k v.cells hk]; exact hx
  have hz : W.heap.size ≤ (W.setRow (s j) v.cells).heap.size := by rw [setRow_size]; exact Nat.le_refl _
  have hnew := setRow_heap W (s j) cs v.cells T (0, 0) hb
  refine opDoL_skip ho ⟨rfl, rfl⟩ hr ⟨rfl, rfl, rfl, hz, fun k x hk hn => ?_, fun k cs' hk hx => ?_⟩ ?_
  · by_cases e : k = s j
    · subst e
      rw [hb] at hk
      rcases hn with hn | hn
      · omega
      · exact absurd (Option.some.inj hk).symm (hn cs)
    · exact hot k x e hk
  · by_cases e : k = s j
    · subst e
      rw [hb] at hx
      have : cs = cs' := by simp only [Option.some.injEq, Obj.cells.injEq] at hx; exact hx.1
      subst this
      exact ⟨v.cells, hnew, by omega, fun _ => hst _ hot hz hgood⟩
    · exact ⟨cs', hot k _ e hx, rfl, fun g => hst' cs' _ hot hz ⟨cs, hb⟩ g⟩
  · show B ≤ (upd s i W.heap.size) j ∧ _
    rw [upd_other s _ hij]
    exact ⟨hB, v.cells, hnew, hst _ hot hz hgood⟩
end
/-- What is said of the content: just these cells. -/
def justC (fin : Array Value) (cs : Array Value) (_ : World) : Prop := cs = fin
theorem justC_b {fin : Array Value} : GoodB (justC fin) := fun _ _ _ _ h => h
end Go.Proofs.Ytiocklgakklkpaa
namespace Go.Proofs.Ytiocklgakklkpaa
open Go.RowKit
/-- Nothing is changed but new blocks of the kinds T; what G says of such a block's content stays said. -/
structure LeK (B : Nat) (T : TypeId → Bool) (G : TypeId → Array Value → World → Prop) (a b : World) : Prop where
  os : b.os = a.os
  tape : b.tape = a.tape
  output : b.output = a.output
  size : a.heap.size ≤ b.heap.size
  block : ∀ k x, a.heap[k]? = some x → (k < B ∨ ∀ cs t, T t = true → x ≠ .cells cs t (0, 0)) → b.heap[k]? = some x
  kind : ∀ k cs t, B ≤ k → T t = true → a.heap[k]? = some (.cells cs t (0, 0)) → ∃ cs', b.heap[k]? = some (.cells cs' t (0, 0)) ∧ cs'.size = cs.size ∧ (G t cs a → G t cs' b)
section
variable {B : Nat} {T : TypeId → Bool} {G : TypeId → Array Value → World → Prop}
theorem LeK.refl (a : World) : LeK B T G a a := ⟨rfl, rfl, rfl, Nat.le_refl _, fun _ _ h _ => h, fun _ cs _ _ _ h => ⟨cs, h, rfl, fun g => g⟩⟩
theorem LeK.trans (a b c : World) (h : LeK B T G a b) (k : LeK B T G b c) : LeK B T G a c :=
  ⟨k.os.trans h.os, k.tape.trans h.tape, k.output.trans h.output, Nat.le_trans h.size k.size, fun i x hx hn => k.block i x (h.block i x hx hn) hn, fun i cs t hi ht hx => by
    obtain ⟨cs1, h1, h2, h3⟩ := h.kind i cs t hi ht hx
    obtain ⟨cs2, h4, h5, h6⟩ := k.kind i cs1 t hi ht h1
    exact ⟨cs2, h4, h5.trans h2, fun g => h6 (h3 g)⟩⟩
theorem LeK.of_below (hG : ∀ t, GoodB (G t)) (a b : World) (h : Below a.heap.size a b) : LeK B T G a b :=
  ⟨h.os, h.tape, h.output, h.size, fun k x hx _ => blk_below hx h, fun k cs t _ _ hx => ⟨cs, blk_below hx h, rfl, fun g => hG t cs a b h g⟩⟩
theorem LeK.drew (hG : ∀ t, GoodB (G t)) (a : World) : LeK B T G a a.drew := LeK.of_below hG _ _ (Below.refl _ _).drew
theorem LeK.below {a b : World} (h : LeK B T G a b) (hB : B ≤ a.heap.size) : Below B a b :=
  ⟨h.os, h.tape, h.output, h.size, fun k hk => by
    have hx : a.heap[k]? = some a.heap[k] := Array.getElem?_eq_getElem (by omega)
    rw [hx]; exact h.block k _ hx (.inl hk)⟩
/-- A box of a kind of T that is made. -/
def boxK (B : Nat) (t : TypeId) (n i : Nat) : Rl := fun v s W => v = .pointer (some ⟨(s i), 0, none⟩) ∧ B ≤ s i ∧ ∃ cs, W.heap[s i]? = some (.cells cs t (0, 0)) ∧ cs.size = n
theorem boxK_k {ds : List (List Nat)} {t : TypeId} {n i : Nat} (ht : T t = true) : KeepsL (LeK B T G) ds i (boxK B t n i) :=
  ⟨fun _ _ _ _ hb h => by
    obtain ⟨h1, h2, cs, h3, h4⟩ := h
    obtain ⟨cs', h5, h6, -⟩ := hb.kind _ cs t h2 ht h3
    exact ⟨h1, h2, cs', h5, h6.trans h4⟩, fun v s s' W e h => by have := e i (by simp); unfold boxK at *; rw [← this]; exact h⟩
theorem OwnI.leK {B' : Nat} {xs : List Int} {g c : Nat} {W W' : World} (h : OwnI B' xs g c W) (hT : T 3 = false) (hb : LeK B T G W W') : OwnI B' xs g c W' := by
  refine h.same hb.size ?_
  rcases h.2.2.2 with ⟨e, -⟩ | ⟨g', cap, cur, e, -, h6, -⟩
  · cases e
  · cases e
    rw [h6]
    exact hb.block _ _ h6 (.inr fun cs t ht e => by simp only [Obj.cells.injEq] at e; rw [← e.2.1, hT] at ht; cases ht)
end
section
variable {P : Program} {ops : Array Oper} {Q : Exit → Act → World → Prop}
end
end Go.Proofs.Ytiocklgakklkpaa
namespace Go.Proofs.Ytiocklgakklkpaa
open Go.RowKit
/-- The box that an operation writes into: the number of the operation that makes it. -/
def tgOf (tgl : List (Nat × Nat)) (i : Nat) : Option Nat := tgl.lookup i
theorem tg_mem {tgl : List (Nat × Nat)} {i b : Nat} (h : tgOf tgl i = some b) : (i, b) ∈ tgl := by
  unfold tgOf at h
  induction tgl with
  | nil => simp at h
  | cons p r ih =>
    obtain ⟨x, y⟩ := p
    rw [List.lookup_cons] at h
    by_cases hx : i = x
    · subst hx; simp at h; subst h; simp
    · rw [show (i == x) = false from beq_eq_false_iff_ne.2 hx] at h
      exact List.mem_cons_of_mem _ (ih h)
def noG : TypeId → Array Value → World → Prop := fun _ _ _ => False
theorem noG_b : ∀ t, GoodB (noG t) := fun _ _ _ _ _ h => h
/-- What an operation may change: nothing but new memory, or the box that it writes into. -/
def SpS (B : Nat) (T : TypeId → Bool) (tgl : List (Nat × Nat)) (i : Nat) (s : Nat → Nat) (a b : World) : Prop :=
  (tgOf tgl i = none → Below a.heap.size a b) ∧ LeK B T noG a b ∧ ∀ j, tgOf tgl i = some j → ∀ k x, k ≠ s j → a.heap[k]? = some x → b.heap[k]? = some x
/-- What is stored in the box of operation j. -/
def stoS (t : TypeId) (j : Nat) (fin : Array Value) : Rl := fun _ s W => W.heap[s j]? = some (.cells fin t (0, 0))
def KeepsS (B : Nat) (T : TypeId → Bool) (tgl : List (Nat × Nat)) (ds : List (List Nat)) (i : Nat) (r : Rl) : Prop :=
  (tgOf tgl i = none ∧ KeepsL (LeK B T noG) ds i r) ∨ ∃ t j fin, tgOf tgl i = some j ∧ j ∈ ds.getD i [] ∧ r = stoS t j fin
theorem ks_l {B : Nat} {T : TypeId → Bool} {tgl : List (Nat × Nat)} {ds : List (List Nat)} {i : Nat} {r : Rl} (h : KeepsL (LeK B T noG) ds i r) (ht : tgOf tgl i = none := by rfl) : KeepsS B T tgl ds i r := .inl ⟨ht, h⟩
theorem ks_s {B : Nat} {T : TypeId → Bool} {tgl : List (Nat × Nat)} {ds : List (List Nat)} {i : Nat} {t : TypeId} {j : Nat} {fin : Array Value} (ht : tgOf tgl i = some j) (hj : j ∈ ds.getD i []) : KeepsS B T tgl ds i (stoS t j fin) := .inr ⟨t, j, fin, ht, hj, rfl⟩
def StaysS (B : Nat) (T : TypeId → Bool) (tgl : List (Nat × Nat)) (R : Nat → Rl) (ds : List (List Nat)) : Nat → Nat → Prop
  | _, 0 => True
  | i, n + 1 => KeepsS B T tgl ds i (R i) ∧ StaysS B T tgl R ds (i + 1) n
theorem staysS_at {B : Nat} {T : TypeId → Bool} {tgl : List (Nat × Nat)} {R : Nat → Rl} {ds : List (List Nat)} : ∀ (n i : Nat), StaysS B T tgl R ds i n → ∀ j, j < n → KeepsS B T tgl ds (i + j) (R (i + j))
  | 0, _, _, _, hj => absurd hj (Nat.not_lt_zero _)
  | n + 1, i, h, 0, _ => h.1
  | n + 1, i, h, j + 1, hj => by
    have := staysS_at n (i + 1) h.2 j (by omega)
    rw [show i + 1 + j = i + (j + 1) by omega] at this
    exact this
section
variable {P : Program} {ops : Array Oper} {Q : Exit → Act → World → Prop}
def OpsDoS (B : Nat) (T : TypeId → Bool) (tgl : List (Nat × Nat)) (P : Program) (ops : Array Oper) (Q : Exit → Act → World → Prop) (N : Nat) (al : List (Nat × Nat)) (g : Nat → Value) (R : Nat → Value → (Nat → Nat) → World → Prop) (w : World) (ds : List (List Nat)) : Nat → Nat → Prop
  | _, 0 => True
  | i, n + 1 => (∀ (f : Nat → Value) (s : Nat → Nat) (W : World), LeK B T noG w W → (∀ j, (ds.getD i []).contains j = true → R j (f j) s W) → (∀ j, (ds.getD i []).contains j = true → w.heap.size ≤ s j) → (∀ p d, (ds.getD p []).contains i = true → al.contains (d, p) = true → f p = g d) → ∀ a, Holds' ops N (ov al f g) a → OpDoL (SpS B T tgl i s) P ops Q i a W (fun v W' => R i v (upd s i W.heap.size) W')) ∧ OpsDoS B T tgl P ops Q N al g R w ds (i + 1) n
theorem opsDoS_at {B : Nat} {T : TypeId → Bool} {tgl : List (Nat × Nat)} {N : Nat} {al : List (Nat × Nat)} {g : Nat → Value} {R : Nat → Value → (Nat → Nat) → World → Prop} {w : World} {ds : List (List Nat)} : ∀ (n i : Nat), OpsDoS B T tgl P ops Q N al g R w ds i n → ∀ j, j < n →
    ∀ (f : Nat → Value) (s : Nat → Nat) (W : World), LeK B T noG w W → (∀ k, (ds.getD (i + j) []).contains k = true → R k (f k) s W) → (∀ k, (ds.getD (i + j) []).contains k = true → w.heap.size ≤ s k) → (∀ p d, (ds.getD p []).contains (i + j) = true → al.contains (d, p) = true → f p = g d) → ∀ a, Holds' ops N (ov al f g) a → OpDoL (SpS B T tgl (i + j) s) P ops Q (i + j) a W (fun v W' => R (i + j) v (upd s (i + j) W.heap.size) W')
  | 0, _, _, _, hj => absurd hj (Nat.not_lt_zero _)
  | n + 1, i, h, 0, _ => h.1
  | n + 1, i, h, j + 1, hj => by
    have := opsDoS_at n (i + 1) h.2 j (by omega)
    rw [show i + 1 + j = i + (j + 1) by omega] at this
    exact this
/-- The boxes that are written into are there as soon as they are made. -/
def Boxes (R : Nat → Rl) : List (Nat × Nat) → Prop
  | [] => True
  | p :: r => (∀ v s W, R p.2 v s W → s p.2 < W.heap.size) ∧ Boxes R r
theorem boxes_at {R : Nat → Rl} : ∀ {l : List (Nat × Nat)}, Boxes R l → ∀ i b, (i, b) ∈ l → ∀ v s W, R b v s W → s b < W.heap.size
  | [], _, _, _, hm => by simp at hm
  | p :: r, h, i, b, hm => by
    rcases List.mem_cons.1 hm with e | hm
    · rw [← e] at h; exact h.1
    · exact boxes_at h.2 i b hm
def okTg (tgl : List (Nat × Nat)) (n : Nat) : Bool := tgl.all fun p => decide (p.2 < n) && decide (p.1 < n) && tgl.all fun q => p.2 != q.2 || p.1 == q.1
theorem region_doS {id : Nat} {draw : Bool} {N : Nat} {g : Nat → Value} {w : World} (B : Nat) (T : TypeId → Bool) (tgl : List (Nat × Nat)) (n : Nat) (al : List (Nat × Nat)) (ds : List (List Nat)) (R : Nat → Value → (Nat → Nat) → World → Prop)
    (hm : P.follows .mixedOrders = true) (hal : okSlots ops al = true) (hok : okWaits ops ds (if draw then n else ops.size) = true) (hn : decide (n ≤ ops.size) = true) (htg : okTg tgl n = true) (hbox : Boxes R tgl) (hst : StaysS B T tgl R ds 0 n) (steps : OpsDoS B T tgl P ops Q N al g R w ds 0 n)
    (fin : ∀ f s W, BehindL (LeK B T noG) R w n f s W → wpOps P ops Q (List.range' n (ops.size - n)) (fr N (ov al f g)) W) :
    (Code.region id ops draw).wp P Q (fr N g) w := by
  obtain ⟨f0, hf0, hf1⟩ := ov_start (g := g) hal
  have htg' : ∀ i b, tgOf tgl i = some b → (b < n ∧ i < n) ∧ ∀ j, tgOf tgl j = some b → i = j := fun i b h => by
    have h1 := List.all_eq_true.1 htg _ (tg_mem h)
    simp only [Bool.and_eq_true, decide_eq_true_eq] at h1
    refine ⟨h1.1, fun j hj => ?_⟩
    have h2 := List.all_eq_true.1 h1.2 _ (tg_mem hj)
    simpa using h2
  have h := wp_region_addsZ (P := P) (Q := Q) (id := id) (draw := draw) (w := w) (Le := LeK B T noG) (Sp := SpS B T tgl) (R := fun i v s W => i < n → R i v s W) (mk := fun f => fr N (ov al f g)) n ds f0 hm hok hn
    LeK.refl (LeK.drew noG_b) LeK.trans (fun _ _ h => h.size) (fun i s W W' h => h.2.1) ?_
    (fun i v s s' W he h hi => by
      rcases staysS_at n 0 hst i hi with ⟨-, h1⟩ | ⟨t, j, fin, h1, h2, h3⟩
      · have := h1.2 v s s' W; rw [Nat.zero_add] at this; exact this he (h hi)
      · rw [Nat.zero_add] at h2 h3
        have h' := h hi
        rw [h3] at h' ⊢
        unfold stoS at *
        rw [← he j (List.mem_cons_of_mem _ h2)]; exact h')
    ?_ ?_
  · simp only [hf0] at h; exact h
  · intro i j L f s t W W' hI hni hLj hdi hcl hsp hjn
    obtain ⟨hI1, hI2, hI3⟩ := hI
    have hRj := (hI2 j hLj).1 hjn
    rcases staysS_at n 0 hst j hjn with ⟨-, h1⟩ | ⟨t1, b, fin, h1, h2, h3⟩
    · have := h1.1 (f j) s W W' hsp.2.1; rw [Nat.zero_add] at this; exact this hRj
    · rw [Nat.zero_add] at h1 h2 h3
      rw [h3] at hRj ⊢
      unfold stoS at *
      cases hi : tgOf tgl i with
      | none => exact blk_below hRj (hsp.1 hi)
      | some b' =>
        refine hsp.2.2 b' hi _ _ (fun e => ?_) hRj
        have hij : i ≠ j := fun e => hni (e ▸ hLj)
        have hb := htg' j b h1
        have hb' := htg' i b' hi
        have hne : b ≠ b' := fun e => hij (hb'.2 j (by rw [h1, e]))
        have hLb : L b := hcl j hLj b h2
        have hLb' : L b' := by
          have hin : i < n := hb'.1.2
          rcases staysS_at n 0 hst i hin with ⟨h0, -⟩ | ⟨t2, b2, fin2, k1, k2, -⟩
          · rw [Nat.zero_add, hi] at h0; cases h0
          · rw [Nat.zero_add] at k1 k2
            rw [hi] at k1
            cases k1
            exact hdi _ k2
        obtain ⟨-, -, -, -, Wb, r1, z1⟩ := hI2 b hLb
        obtain ⟨-, -, -, -, Wb', r2, z2⟩ := hI2 b' hLb'
        have l1 := boxes_at hbox _ _ (tg_mem h1) _ _ _ (r1 hb.1.1)
        have l2 := boxes_at hbox _ _ (tg_mem hi) _ _ _ (r2 hb'.1.1)
        have := hI3 b b' hLb hLb' hne
        omega
  · have key : ∀ m i, i + m = n → AddStepsZ P ops Q (LeK B T noG) (SpS B T tgl) (fun i v k W => i < n → R i v k W) (fun f => fr N (ov al f g)) w f0 ds i m := by
      intro m
      induction m with
      | zero => intro i _; exact True.intro
      | succ m ih =>
        intro i him
        refine ⟨fun f s W hle hd hlate K hK => ?_, ih (i + 1) (by omega)⟩
        have hsz : i < ops.size := by have := of_decide_eq_true hn; omega
        have ho := Array.getElem?_eq_getElem hsz
        have hdo := opsDoS_at n 0 steps i (by omega) f s W hle
        rw [Nat.zero_add] at hdo
        have hdd : ∀ k, (ds.getD i []).contains k = true → R k (f k) s W ∧ w.heap.size ≤ s k := fun k hk => by
          have hk' : k ∈ ds.getD i [] := by simpa using hk
          have hlt := ((okWaits_at hok ho).1 k hk').1
          have := allIn_mem hd k hk'
          exact ⟨this.1 (by omega), this.2⟩
        refine hdo (fun k hk => (hdd k hk).1) (fun k hk => (hdd k hk).2) (fun p d hp hd' => (hlate p (by simpa using hp)).trans (hf1 (d, p) (by simpa using hd'))) _ (holds_fr _ _ _ _ _) K fun v W' hb hR => ?_
        have := hK v W' hb fun _ => hR
        rw [ho]
        simp only [Option.bind_some]
        rw [okSlots_at hal ho]
        exact this
    exact key n 0 (by omega)
  · rintro f s t W ⟨h1, h2, h3⟩
    exact fin f s W ⟨h1, fun i hi => (h2 i hi).1 hi, fun i hi => (h2 i hi).2.1, t, fun i hi => ⟨(h2 i hi).2.2.1, (h2 i hi).2.2.2.1, (h2 i hi).2.2.2.2.imp fun _ h => ⟨h.1 hi, h.2⟩⟩, fun i j hi hj => h3 i j hi hj⟩
/-- An operation that only adds. -/
theorem OpDo.s {B : Nat} {T : TypeId → Bool} {tgl : List (Nat × Nat)} {i : Nat} {s : Nat → Nat} {a : Act} {W : World} {R : Value → World → Prop} (h : OpDo P ops Q i a W R) (ht : tgOf tgl i = none := by rfl) : OpDoL (SpS B T tgl i s) P ops Q i a W R :=
  h.l fun _ _ hb => ⟨fun _ => hb, LeK.of_below noG_b _ _ hb, fun j hj => by rw [ht] at hj; cases hj⟩
/-- The box. -/
theorem opS {B : Nat} {T : TypeId → Bool} {tgl : List (Nat × Nat)} {t : TypeId} {i n : Nat} {a : Act} {W : World} {s : Nat → Nat} {cs : Array Value} {o : Oper} (hB : B ≤ W.heap.size) (ho : ops[i]? = some o) (hg : o.guard = none) (hr : (execOp a.eval o).run P W = .ok (.value (.pointer (some ⟨W.heap.size, 0, none⟩))) (W.alloc (.cells cs t))) (hn : cs.size = n) (ht : tgOf tgl i = none := by rfl) :
    OpDoL (SpS B T tgl i s) P ops Q i a W (fun v W' => boxK B t n i v (upd s i W.heap.size) W') :=
  opDoL_value ho hg hr ⟨fun _ => balloc1 _ _, LeK.of_below noG_b _ _ (balloc1 _ _), fun j hj => by rw [ht] at hj; cases hj⟩ ⟨by rw [upd_at], by rw [upd_at]; exact hB, cs, by rw [upd_at]; exact blk_new rfl, hn⟩
/-- The store. -/
theorem stoS_do {B : Nat} {T : TypeId → Bool} {tgl : List (Nat × Nat)} {t : TypeId} {i j n : Nat} {a : Act} {W : World} {s : Nat → Nat} {ty tt : TypeId} {x y : Operand} {pos : String} {af : Array Edge} {v : Value} (fin : Array Value) {g0 : Value}
    (ho : ops[i]? = some { dst := none, op := .store ty x y, type := tt, pos := pos, after := af, guard := none }) (htg : tgOf tgl i = some j) (ht : T t = true) (hij : j ≠ i) (hbox : boxK B t n j g0 s W) (hx : a.eval x = .pointer (some ⟨(s j), 0, none⟩)) (hy : a.eval y = v) (hf : v.cells = fin) (hn : fin.size = n) (hi : (P.info? ty).map (·.size) = some n) (h1 : fin.toList.all (·.oneCell') = true) :
    OpDoL (SpS B T tgl i s) P ops Q i a W (fun v W' => stoS t j fin v (upd s i W.heap.size) W') := by
  obtain ⟨-, hB, cs, hb, hsz⟩ := hbox
  subst hf
  have e : (cs.toList.take 0 ++ v.cells.toList ++ cs.toList.drop (0 + v.cells.size)).toArray = v.cells := by
    have : cs.toList.drop (0 + v.cells.size) = [] := List.drop_eq_nil_of_le (by simp; omega)
    rw [this]; simp
  have hr := run_seg (P := P) (a := a) (dst := none) (ty := ty) (tt := tt) (x := x) (y := y) (pos := pos) (af := af) (gd := none) (W' := W.setRow (s j) v.cells) rfl hx hy hb (by rw [hi, hn]) (decide_eq_true (by omega)) h1 e
  have hot : ∀ k x, k ≠ s j → W.heap[k]? = some x → (W.setRow (s j) v.cells).heap[k]? = some x := fun k x hk hx => by rw [setRow_other W (s j) k v.cells hk]; exact hx
  have hz : W.heap.size ≤ (W.setRow (s j) v.cells).heap.size := by rw [setRow_size]; exact Nat.le_refl _
  have hnew := setRow_heap W (s j) cs v.cells t (0, 0) hb
  refine opDoL_skip ho ⟨rfl, rfl⟩ hr ⟨fun h => (by rw [htg] at h; cases h), ⟨rfl, rfl, rfl, hz, fun k x hk hn => ?_, fun k cs' t' hk ht' hx => ?_⟩, fun j' hj' k x hk hx => ?_⟩ ?_
  · by_cases e : k = s j
    · subst e
      rw [hb] at hk
      rcases hn with hn | hn
      · omega
      · exact absurd (Option.some.inj hk).symm (hn cs t ht)
    · exact hot k x e hk
  · by_cases e : k = s j
    · subst e
      rw [hb] at hx
      obtain ⟨rfl, rfl⟩ : cs = cs' ∧ t = t' := by simp only [Option.some.injEq, Obj.cells.injEq] at hx; exact ⟨hx.1, hx.2.1⟩
      exact ⟨v.cells, hnew, by omega, fun g => g.elim⟩
    · exact ⟨cs', hot k _ e hx, rfl, fun g => g⟩
  · rw [htg] at hj'
    cases hj'
    exact hot k x hk hx
  · show (W.setRow (s j) v.cells).heap[(upd s i W.heap.size) j]? = _
    rw [upd_other s _ hij]
    exact hnew
end
theorem boxK_lt {B : Nat} {t : TypeId} {n i : Nat} {v : Value} {s : Nat → Nat} {W : World} (h : boxK B t n i v s W) : s i < W.heap.size := by
  obtain ⟨-, -, cs, h, -⟩ := h
  exact lt_of_blk h
end Go.Proofs.Ytiocklgakklkpaa
namespace Go.Proofs.Ytiocklgakklkpaa
open Go.RowKit Go.Shelf
/-- All but one block is kept. -/
structure KeepX (bn : Nat) (W W' : World) : Prop where
  os : W'.os = W.os
  tape : W'.tape = W.tape
  output : W'.output = W.output
  size : W.heap.size ≤ W'.heap.size
  block : ∀ k o, k ≠ bn → W.heap[k]? = some o → W'.heap[k]? = some o
theorem KeepX.refl (bn : Nat) (W : World) : KeepX bn W W := ⟨rfl, rfl, rfl, Nat.le_refl _, fun _ _ _ h => h⟩
theorem KeepX.trans {bn : Nat} {A B C : World} (h : KeepX bn A B) (k : KeepX bn B C) : KeepX bn A C :=
  ⟨k.os.trans h.os, k.tape.trans h.tape, k.output.trans h.output, Nat.le_trans h.size k.size, fun i o hi hx => k.block i o hi (h.block i o hi hx)⟩
theorem KeepX.of_below {bn : Nat} {A B : World} (h : Below A.heap.size A B) : KeepX bn A B :=
  ⟨h.os, h.tape, h.output, h.size, fun i o _ hx => (h.block i (Array.getElem?_eq_some_iff.1 hx).1).trans hx⟩
theorem KeepX.below {bn B : Nat} {A C : World} (h : KeepX bn A C) (hb : B ≤ bn) (hB : B ≤ A.heap.size) : Below B A C :=
  ⟨h.os, h.tape, h.output, h.size, fun k hk => by
    have hx : A.heap[k]? = some A.heap[k] := Array.getElem?_eq_getElem (by omega)
    rw [hx]; exact h.block k _ (by omega) hx⟩
theorem putObj_size (W : World) (l : Nat) (o : Obj) : (W.putObj l o).heap.size = W.heap.size := by simp [World.putObj]
set_option maxHeartbeats 4000000 in
theorem range_seq {n : Nat} {P : Program} {g : Operand} {ps : Array Tmp} {assign body : Code} {Q : Exit → Act → World → Prop} {a : Act} {w : World} {gf : Nat} {rcv lb : Array Value}
    (hg : a.eval g = .func (.func gf) rcv lb) (eg : ∀ args w, (callFunc gf args).run P w = .ok (.enter gf args) w) (m : Nat) (encs : Nat → Array Value) (hps : ∀ i, (encs i).size = ps.size) (bn : Nat)
    (I : Nat → World → Prop) (hIb : ∀ i W W', I i W → Below W.heap.size W W' → I i W') (hIp : ∀ i W l o, w.heap.size ≤ l → I i W → I i (W.putObj l o))
    (hit : ∀ (l : Nat) (W1 : World) (J : Nat → World → Prop), Below w.heap.size w W1 → (∀ i W W', J i W → Below W.heap.size W W' → J i W') →
      (∀ i W, i < m → J i W → YieldAt Fence.wide (n - 1 - 1) P l (encs i) W fun e W' => e = .returned (.bool true) ∧ J (i + 1) W' ∧ KeepX bn W W') → J 0 W1 →
      CallsIn Fence.wide (n - 1) P gf (rcv ++ #[.func (.yield l) #[] #[]] ++ lb) W1 fun e W' => (∃ v, e = .returned v) ∧ J m W')
    (h0 : I 0 w) (a₁ : Nat → Act)
    (hassign : ∀ (l i : Nat) (W : World) (K : Act → World → Prop), K (a₁ i) W → assign.wpIn (Fence.wide.inRound l) (n - 1 - 1) P (Exit.then K fun _ _ _ => False) { tmps := (ps.zip (encs i)).foldl (fun t (p, v) => t.setIfInBounds p v) a.tmps, defers := [] } W)
    (hbn : bn < w.heap.size)
    (hbody : ∀ (l i : Nat) (W : World), i < m → I i W → body.wpIn (Fence.wide.inRound l) (n - 1 - 1) P (fun e _ W' => e = .normal ∧ I (i + 1) W' ∧ KeepX bn W W') (a₁ i) W)
    (hdone : ∀ (D : Nat) (W : World), w.heap.size ≤ D → I m W → W.heap[D]? = some (.deferred (some [])) → Q .normal { a with defers := { target := .collected D, args := #[] } :: a.defers } W) :
    (Code.rangeFunc g ps assign body).wpIn Fence.wide n P Q a w := by
  refine wpIn_rangeFunc fun fn _ => ?_
  obtain ⟨rc, hrc⟩ : ∃ rc : LoopState → Option Code → Loop, ∀ st pe, rc st pe = { state := st, pending := pe, fn, tmps := a.tmps, params := ps, assign, body, defers := w.heap.size } := ⟨_, fun _ _ => rfl⟩
  obtain ⟨V, hV⟩ : ∃ V, (w.alloc (.deferred (some []))).alloc (.loop (rc .ready none)) = V := ⟨_, rfl⟩
  have hbV : Below w.heap.size w V := hV ▸ ((Below.refl _ w).alloc (Nat.le_refl _) _).alloc (by simp) _
  have hL : V.heap[w.heap.size + 1]? = some (.loop (rc .ready none)) := by
    rw [← hV]; have := World.alloc_heap_new (w.alloc (.deferred (some []))) (.loop (rc .ready none)); rwa [World.size_alloc] at this
  have hD : V.heap[w.heap.size]? = some (.deferred (some [])) := by
    rw [← hV]; exact (Below.heap_alloc _ _ _ (by simp)).trans (World.alloc_heap_new w _)
  refine ⟨w.heap.size + 1, [{ target := .collected w.heap.size, args := #[] }], V, { target := .fn (.func gf) lb, args := rcv ++ #[.func (.yield (w.heap.size + 1)) #[] #[]] }, V, gf, rcv ++ #[.func (.yield (w.heap.size + 1)) #[] #[]] ++ lb, V, ?_, ?_, fun _ _ => trivial, ?_, fun h => by simp [Fence.wide] at h, ?_⟩
  · rw [← hV, hrc]; exact run_enterLoop_outer _ _ _ _ _
  · simp only [resolve, hg]
    simp [go_sem]
  · simp [invoke, go_sem, eg]
  · have keep : ∀ {A B : World} {k : Nat} {o : Obj}, A.heap[k]? = some o → Below A.heap.size A B → B.heap[k]? = some o := fun hx hb => (hb.block _ (Array.getElem?_eq_some_iff.1 hx).1).trans hx
    refine (hit (w.heap.size + 1) V (fun i W => I i W ∧ W.heap[w.heap.size + 1]? = some (.loop (rc .ready none)) ∧ W.heap[w.heap.size]? = some (.deferred (some []))) hbV
      (fun i W W' h hb => ⟨hIb i W W' h.1 hb, keep h.2.1 hb, keep h.2.2 hb⟩) ?_ ⟨hIb 0 _ _ h0 hbV, hL, hD⟩).mono ?_
    · rintro i W hi ⟨hI, hl, hd⟩
      have hy := run_yield (P := P) (args := encs i) hl (by rw [hrc]; exact hps i)
      rw [hrc] at hy
      refine ⟨fn, _, assign, body, hy, roundIn_of_wpIn trivial (hassign _ i W _ ⟨_, run_beginRound hl (by rw [hrc]), ?_⟩)⟩
      obtain ⟨X, hX⟩ : ∃ X, W.putObj (w.heap.size + 1) (.loop { rc .ready none with state := .busy }) = X := ⟨_, rfl⟩
      rw [hX]
      have hlX : X.heap[w.heap.size + 1]? = some (.loop { rc .ready none with state := .busy }) := hX ▸ World.putObj_heap_same (Array.getElem?_eq_some_iff.1 hl).1
      have hoX : ∀ k, k ≠ w.heap.size + 1 → X.heap[k]? = W.heap[k]? := fun k hk => hX ▸ World.putObj_heap_other (fun e => hk e)
      have hIX : I i X := hX ▸ hIp i W _ _ (by omega) hI
      refine wpIn_mono (hbody _ i X hi hIX) ?_
      rintro e a3 Y ⟨rfl, hI3, hk⟩
      have hlY := hk.block _ _ (by omega) hlX
      have hr := run_endRound (P := P) none hlY
      obtain ⟨Z, hZ⟩ : ∃ Z, Y.putObj (w.heap.size + 1) (.loop { { rc .ready none with state := .busy } with state := if (none : Option Code).isNone then .ready else .done, pending := none }) = Z := ⟨_, rfl⟩
      rw [hZ] at hr
      have hlZ : Z.heap[w.heap.size + 1]? = some (.loop (rc .ready none)) := by
        rw [← hZ, World.putObj_heap_same (Array.getElem?_eq_some_iff.1 hlY).1, hrc]; rfl
      have hoZ : ∀ k, k ≠ w.heap.size + 1 → Z.heap[k]? = Y.heap[k]? := fun k hk => hZ ▸ World.putObj_heap_other (fun e => hk e)
      refine ⟨_, _, hr, rfl, ⟨hZ ▸ hIp _ Y _ _ (by omega) hI3, hlZ, ?_⟩, ?_⟩
      · rw [hoZ _ (by omega)]
        exact hk.block _ _ (by omega) ((hoX _ (by omega)).trans hd)
      · refine ⟨?_, ?_, ?_, ?_, fun k o hk2 hx => ?_⟩
        · rw [← hZ]; exact hk.os.trans (hX ▸ rfl)
        · rw [← hZ]; exact hk.tape.trans (hX ▸ rfl)
        · rw [← hZ]; exact hk.output.trans (hX ▸ rfl)
        · rw [← hZ, putObj_size]; have := hk.size; rw [← hX, putObj_size] at this; exact this
        · by_cases e : k = w.heap.size + 1
          · subst e; rw [hlZ, ← hl, hx]
          · rw [hoZ k e]; exact hk.block k o hk2 ((hoX k e).trans hx)
    · rintro e W2 ⟨⟨v, rfl⟩, hI, hl, hd⟩
      have hr := run_endLoop (P := P) hl (by rw [hrc]; simp)
      refine ⟨none, _, by rw [hr, hrc], hdone _ _ (Nat.le_refl _) (hIp _ _ _ _ (by omega) hI) ((World.putObj_heap_other (by omega)).trans hd)⟩
end Go.Proofs.Ytiocklgakklkpaa
